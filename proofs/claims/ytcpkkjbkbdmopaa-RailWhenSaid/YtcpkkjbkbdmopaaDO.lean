/- Proved here: laws that the statements need (RaC39, RaS6). No conditions but those that each law states. -/
import Derived.Test.YtcpkkjbkbdmopaaFL
import Derived.Test.YtcpkkjbkbdmopaaFP
import Derived.Test.YtcpkkjbkbdmopaaProg
import Derived.Test.YtcpkkjbkbdmopaaDN

set_option linter.unusedSimpArgs false
set_option linter.unusedVariables false

/- Compiled code of functions, printed by program; each is checked to be the program's. No conditions. -/
namespace Go.Proofs.Ytcpkkjbkbdmopaa
open Go Go.Ab
/-- dipworks/dipworkslaw11.RailWhen -/
def c9 : AC :=
 .seq (.reg [⟨(some 3), none, .box (.tmp 0)⟩,
 ⟨(some 6), none, .mov (.lit (.bool false))⟩])
 (.seq (.seq (.reg [⟨(some 31), none, .load true 10 (.tmp 3)⟩,
 ⟨(some 32), none, .call (.fn 37) [(.tmp 31)]⟩,
 ⟨(some 33), none, .mov (.tmp 32)⟩,
 ⟨(some 34), (some (33, false)), .load true 10 (.tmp 3)⟩,
 ⟨(some 35), (some (33, false)), .call (.fn 12) [(.tmp 34)]⟩,
 ⟨(some 36), (some (33, false)), .un .not (.tmp 35)⟩,
 ⟨(some 37), none, .pick (.tmp 33) (.lit (.bool true)) (.tmp 36)⟩])
 (.cond (.tmp 37) (.seq (.reg [⟨(some 38), none, .call (.fn 24) []⟩,
 ⟨(some 6), none, .mov (.tmp 38)⟩])
 (.ret))
 (.skip)))
 (.seq (.reg [⟨(some 39), none, .mov (.tmp 1)⟩,
 ⟨(some 40), none, .conv .i64 (.tmp 39)⟩,
 ⟨(some 41), none, .faddr 4 (.tmp 3)⟩,
 ⟨(some 42), none, .load false 1 (.tmp 41)⟩,
 ⟨(some 43), none, .bin .add (.tmp 42) (.lit (.int .i64 1))⟩,
 ⟨(some 44), none, .bin .rem (.tmp 40) (.tmp 43)⟩,
 ⟨(some 45), none, .mov (.tmp 2)⟩,
 ⟨(some 46), none, .conv .i64 (.tmp 45)⟩,
 ⟨(some 47), none, .bin .rem (.tmp 46) (.lit (.int .i64 61))⟩,
 ⟨(some 7), none, .mov (.tmp 44)⟩,
 ⟨(some 8), none, .mov (.tmp 47)⟩])
 (.seq (.reg [⟨(some 49), none, .load true 10 (.tmp 3)⟩,
 ⟨(some 50), none, .mov (.tmp 8)⟩,
 ⟨(some 51), none, .call (.fn 33) [(.tmp 49), (.tmp 50)]⟩,
 ⟨(some 48), none, .mov (.tmp 51)⟩,
 ⟨(some 52), none, .ext (.tmp 48) 0⟩,
 ⟨(some 53), none, .ext (.tmp 48) 1⟩,
 ⟨(some 9), none, .mov (.tmp 52)⟩,
 ⟨(some 10), none, .mov (.tmp 53)⟩])
 (.seq (.reg [⟨(some 55), none, .load true 10 (.tmp 3)⟩,
 ⟨(some 56), none, .mov (.tmp 7)⟩,
 ⟨(some 57), none, .mov (.tmp 8)⟩,
 ⟨(some 58), none, .call (.fn 32) [(.tmp 55), (.tmp 56), (.tmp 57)]⟩,
 ⟨(some 54), none, .mov (.tmp 58)⟩,
 ⟨(some 59), none, .ext (.tmp 54) 0⟩,
 ⟨(some 60), none, .ext (.tmp 54) 1⟩,
 ⟨(some 11), none, .mov (.tmp 59)⟩,
 ⟨(some 12), none, .mov (.tmp 60)⟩])
 (.seq (.reg [⟨(some 62), none, .load true 10 (.tmp 3)⟩,
 ⟨(some 63), none, .mov (.tmp 7)⟩,
 ⟨(some 64), none, .mov (.tmp 8)⟩,
 ⟨(some 65), none, .call (.fn 34) [(.tmp 62), (.tmp 63), (.tmp 64)]⟩,
 ⟨(some 61), none, .mov (.tmp 65)⟩,
 ⟨(some 66), none, .ext (.tmp 61) 0⟩,
 ⟨(some 67), none, .ext (.tmp 61) 1⟩,
 ⟨(some 13), none, .mov (.tmp 66)⟩,
 ⟨(some 14), none, .mov (.tmp 67)⟩])
 (.seq (.reg [⟨(some 68), none, .call (.fn 36) [(.lit (.int .i64 (-1))), (.lit (.int .i64 (-1)))]⟩,
 ⟨(some 15), none, .alloc [(.int .i64 0), (.int .i64 0)]⟩,
 ⟨none, none, .store 2 (.tmp 15) (.tmp 68)⟩])
 (.seq (.seq (.reg [⟨(some 69), none, .faddr 4 (.tmp 3)⟩,
 ⟨(some 70), none, .load false 1 (.tmp 69)⟩,
 ⟨(some 71), none, .bin .add (.tmp 70) (.lit (.int .i64 1))⟩,
 ⟨(some 72), none, .mov (.lit (.int .i64 0))⟩])
 (.block 0 (.loop (.seq (.reg [⟨(some 73), none, .bin .lss (.tmp 72) (.tmp 71)⟩])
 (.seq (.cond (.tmp 73) (.skip)
 (.exit 0))
 (.seq (.block 1 (.seq (.reg [⟨(some 74), none, .mov (.tmp 72)⟩,
 ⟨(some 16), none, .mov (.tmp 74)⟩])
 (.seq (.reg [⟨(some 76), none, .load true 10 (.tmp 3)⟩,
 ⟨(some 77), none, .mov (.tmp 16)⟩,
 ⟨(some 78), none, .call (.fn 14) [(.tmp 76), (.tmp 77)]⟩,
 ⟨(some 75), none, .mov (.tmp 78)⟩,
 ⟨(some 79), none, .ext (.tmp 75) 0⟩,
 ⟨(some 80), none, .ext (.tmp 75) 1⟩,
 ⟨(some 17), none, .alloc [(.int .i64 0), (.int .i64 0)]⟩,
 ⟨none, none, .store 2 (.tmp 17) (.tmp 79)⟩,
 ⟨(some 18), none, .mov (.tmp 80)⟩])
 (.seq (.seq (.reg [⟨(some 81), none, .mov (.tmp 18)⟩,
 ⟨(some 82), none, .mov (.tmp 12)⟩,
 ⟨(some 83), none, .bin .neq (.tmp 81) (.tmp 82)⟩,
 ⟨(some 84), none, .mov (.tmp 83)⟩,
 ⟨(some 85), (some (84, false)), .mov (.tmp 14)⟩,
 ⟨(some 86), (some (84, false)), .mov (.tmp 12)⟩,
 ⟨(some 87), (some (84, false)), .bin .neq (.tmp 85) (.tmp 86)⟩,
 ⟨(some 88), none, .pick (.tmp 84) (.lit (.bool true)) (.tmp 87)⟩])
 (.cond (.tmp 88) (.seq (.reg [⟨(some 6), none, .mov (.lit (.bool false))⟩])
 (.ret))
 (.skip)))
 (.seq (.seq (.reg [⟨(some 89), none, .mov (.tmp 18)⟩,
 ⟨(some 90), none, .bin .neq (.tmp 89) (.lit (.int .i64 0))⟩])
 (.cond (.tmp 90) (.seq (.reg [⟨(some 91), none, .mov (.tmp 10)⟩,
 ⟨(some 92), none, .mov (.tmp 18)⟩,
 ⟨(some 93), none, .bin .eql (.tmp 91) (.tmp 92)⟩,
 ⟨(some 94), none, .mov (.tmp 93)⟩,
 ⟨(some 95), (some (94, true)), .mov (.tmp 18)⟩,
 ⟨(some 96), (some (94, true)), .bin .eql (.tmp 95) (.lit (.int .i64 10))⟩,
 ⟨(some 97), none, .pick (.tmp 94) (.tmp 96) (.lit (.bool false))⟩,
 ⟨(some 98), none, .mov (.tmp 97)⟩,
 ⟨(some 99), (some (98, true)), .mov (.tmp 9)⟩,
 ⟨(some 100), (some (98, true)), .bin .eql (.tmp 99) (.lit (.int .i64 0))⟩,
 ⟨(some 101), none, .pick (.tmp 98) (.tmp 100) (.lit (.bool false))⟩,
 ⟨(some 102), none, .mov (.tmp 101)⟩,
 ⟨(some 103), (some (102, true)), .mov (.tmp 11)⟩,
 ⟨(some 104), (some (102, true)), .bin .eql (.tmp 103) (.lit (.int .i64 0))⟩,
 ⟨(some 105), none, .pick (.tmp 102) (.tmp 104) (.lit (.bool false))⟩,
 ⟨(some 106), none, .mov (.tmp 105)⟩,
 ⟨(some 107), (some (106, true)), .mov (.tmp 13)⟩,
 ⟨(some 108), (some (106, true)), .bin .eql (.tmp 107) (.lit (.int .i64 0))⟩,
 ⟨(some 109), none, .pick (.tmp 106) (.tmp 108) (.lit (.bool false))⟩,
 ⟨(some 110), none, .mov (.tmp 109)⟩,
 ⟨(some 111), (some (110, true)), .call (.fn 24) []⟩,
 ⟨(some 112), none, .pick (.tmp 110) (.tmp 111) (.lit (.bool false))⟩,
 ⟨(some 6), none, .mov (.tmp 112)⟩])
 (.ret))
 (.skip)))
 (.seq (.seq (.reg [⟨(some 113), none, .faddr 0 (.tmp 17)⟩,
 ⟨(some 114), none, .load false 1 (.tmp 113)⟩,
 ⟨(some 115), none, .bin .lss (.tmp 114) (.lit (.int .i64 0))⟩,
 ⟨(some 116), none, .mov (.tmp 115)⟩,
 ⟨(some 117), (some (116, false)), .faddr 0 (.tmp 17)⟩,
 ⟨(some 118), (some (116, false)), .load false 1 (.tmp 117)⟩,
 ⟨(some 119), (some (116, false)), .faddr 1 (.tmp 17)⟩,
 ⟨(some 120), (some (116, false)), .load false 1 (.tmp 119)⟩,
 ⟨(some 121), (some (116, false)), .bin .gtr (.tmp 118) (.tmp 120)⟩,
 ⟨(some 122), none, .pick (.tmp 116) (.lit (.bool true)) (.tmp 121)⟩,
 ⟨(some 123), none, .mov (.tmp 122)⟩,
 ⟨(some 124), (some (123, false)), .faddr 0 (.tmp 17)⟩,
 ⟨(some 125), (some (123, false)), .load false 1 (.tmp 124)⟩,
 ⟨(some 126), (some (123, false)), .faddr 0 (.tmp 15)⟩,
 ⟨(some 127), (some (123, false)), .load false 1 (.tmp 126)⟩,
 ⟨(some 128), (some (123, false)), .bin .lss (.tmp 125) (.tmp 127)⟩,
 ⟨(some 129), none, .pick (.tmp 123) (.lit (.bool true)) (.tmp 128)⟩,
 ⟨(some 130), none, .mov (.tmp 129)⟩,
 ⟨(some 131), (some (130, false)), .faddr 1 (.tmp 17)⟩,
 ⟨(some 132), (some (130, false)), .load false 1 (.tmp 131)⟩,
 ⟨(some 133), (some (130, false)), .faddr 1 (.tmp 15)⟩,
 ⟨(some 134), (some (130, false)), .load false 1 (.tmp 133)⟩,
 ⟨(some 135), (some (130, false)), .bin .lss (.tmp 132) (.tmp 134)⟩,
 ⟨(some 136), none, .pick (.tmp 130) (.lit (.bool true)) (.tmp 135)⟩,
 ⟨(some 137), none, .mov (.tmp 136)⟩,
 ⟨(some 138), (some (137, false)), .faddr 0 (.tmp 17)⟩,
 ⟨(some 139), (some (137, false)), .load false 1 (.tmp 138)⟩,
 ⟨(some 140), (some (137, false)), .mov (.tmp 8)⟩,
 ⟨(some 141), (some (137, false)), .bin .geq (.tmp 139) (.tmp 140)⟩,
 ⟨(some 142), (some (137, false)), .mov (.tmp 10)⟩,
 ⟨(some 143), (some (137, false)), .bin .eql (.tmp 142) (.lit (.int .i64 0))⟩,
 ⟨(some 144), (some (137, false)), .mov (.tmp 143)⟩,
 ⟨(some 145), (some (144, true)), .mov (.tmp 16)⟩,
 ⟨(some 146), (some (144, true)), .mov (.tmp 9)⟩,
 ⟨(some 147), (some (144, true)), .bin .geq (.tmp 145) (.tmp 146)⟩,
 ⟨(some 148), (some (137, false)), .pick (.tmp 144) (.tmp 147) (.lit (.bool false))⟩,
 ⟨(some 149), (some (137, false)), .eqb true (.tmp 141) (.tmp 148)⟩,
 ⟨(some 150), none, .pick (.tmp 137) (.lit (.bool true)) (.tmp 149)⟩])
 (.cond (.tmp 150) (.seq (.reg [⟨(some 6), none, .mov (.lit (.bool false))⟩])
 (.ret))
 (.skip)))
 (.seq (.reg [⟨(some 151), none, .load true 2 (.tmp 17)⟩,
 ⟨none, none, .store 2 (.tmp 15) (.tmp 151)⟩])
 (.seq (.seq (.reg [⟨(some 152), none, .mov (.tmp 16)⟩,
 ⟨(some 153), none, .mov (.tmp 7)⟩,
 ⟨(some 154), none, .bin .neq (.tmp 152) (.tmp 153)⟩])
 (.cond (.tmp 154) (.exit 1)
 (.skip)))
 (.seq (.reg [⟨(some 19), none, .mov (.lit (.int .i64 1))⟩])
 (.seq (.seq (.reg [⟨(some 155), none, .faddr 0 (.tmp 17)⟩,
 ⟨(some 156), none, .load false 1 (.tmp 155)⟩,
 ⟨(some 157), none, .mov (.tmp 8)⟩,
 ⟨(some 158), none, .bin .geq (.tmp 156) (.tmp 157)⟩])
 (.cond (.tmp 158) (.reg [⟨(some 19), none, .mov (.lit (.int .i64 2))⟩])
 (.skip)))
 (.seq (.seq (.reg [⟨(some 159), none, .faddr 1 (.tmp 17)⟩,
 ⟨(some 160), none, .load false 1 (.tmp 159)⟩,
 ⟨(some 161), none, .mov (.tmp 8)⟩,
 ⟨(some 162), none, .bin .lss (.tmp 160) (.tmp 161)⟩])
 (.cond (.tmp 162) (.reg [⟨(some 19), none, .mov (.lit (.int .i64 0))⟩])
 (.skip)))
 (.seq (.reg [⟨(some 163), none, .mov (.tmp 11)⟩,
 ⟨(some 164), none, .mov (.tmp 19)⟩,
 ⟨(some 165), none, .bin .neq (.tmp 163) (.tmp 164)⟩])
 (.cond (.tmp 165) (.seq (.reg [⟨(some 6), none, .mov (.lit (.bool false))⟩])
 (.ret))
 (.skip))))))))))))))
 (.reg [⟨(some 166), none, .bin .add (.tmp 72) (.lit (.int .i64 1))⟩,
 ⟨(some 72), none, .mov (.tmp 166)⟩])))))))
 (.seq (.seq (.reg [⟨(some 167), none, .mov (.tmp 10)⟩,
 ⟨(some 168), none, .bin .neq (.tmp 167) (.lit (.int .i64 0))⟩,
 ⟨(some 169), none, .mov (.tmp 168)⟩,
 ⟨(some 170), (some (169, true)), .mov (.tmp 10)⟩,
 ⟨(some 171), (some (169, true)), .bin .neq (.tmp 170) (.lit (.int .i64 4))⟩,
 ⟨(some 172), none, .pick (.tmp 169) (.tmp 171) (.lit (.bool false))⟩])
 (.cond (.tmp 172) (.seq (.reg [⟨(some 6), none, .mov (.lit (.bool false))⟩])
 (.ret))
 (.skip)))
 (.seq (.seq (.reg [⟨(some 173), none, .bslice 1 (.int .i64 0) 2 [(0, (.lit (.int .i64 (-1)))), (1, (.lit (.int .i64 0)))]⟩,
 ⟨(some 174), none, .len (.tmp 173)⟩,
 ⟨(some 175), none, .mov (.lit (.int .i64 0))⟩])
 (.block 2 (.loop (.seq (.reg [⟨(some 176), none, .bin .lss (.tmp 175) (.tmp 174)⟩])
 (.seq (.cond (.tmp 176) (.skip)
 (.exit 2))
 (.seq (.block 3 (.seq (.reg [⟨(some 177), none, .iaddr 1 (.tmp 173) (.tmp 175)⟩,
 ⟨(some 178), none, .load false 1 (.tmp 177)⟩,
 ⟨(some 21), none, .mov (.tmp 178)⟩])
 (.seq (.reg [⟨(some 179), none, .load true 10 (.tmp 3)⟩,
 ⟨(some 22), none, .alloc [(.slice none 0 0), (.slice none 0 0), (.slice none 0 0), (.int .i64 0), (.int .i64 0), (.int .i64 0), (.int .i64 0), (.int .i64 0), (.slice none 0 0), (.int .i64 0)]⟩,
 ⟨none, none, .store 10 (.tmp 22) (.tmp 179)⟩])
 (.seq (.reg [⟨(some 180), none, .faddr 3 (.tmp 22)⟩,
 ⟨(some 181), none, .load false 1 (.tmp 180)⟩,
 ⟨(some 182), none, .mov (.tmp 13)⟩,
 ⟨(some 183), none, .mov (.tmp 21)⟩,
 ⟨(some 184), none, .bin .add (.tmp 182) (.tmp 183)⟩,
 ⟨(some 185), none, .bin .add (.tmp 181) (.tmp 184)⟩,
 ⟨(some 186), none, .faddr 3 (.tmp 22)⟩,
 ⟨none, none, .store 1 (.tmp 186) (.tmp 185)⟩])
 (.seq (.seq (.reg [⟨(some 187), none, .mov (.tmp 13)⟩,
 ⟨(some 188), none, .mov (.tmp 21)⟩,
 ⟨(some 189), none, .bin .add (.tmp 187) (.tmp 188)⟩,
 ⟨(some 190), none, .bin .lss (.tmp 189) (.lit (.int .i64 0))⟩,
 ⟨(some 191), none, .mov (.tmp 190)⟩,
 ⟨(some 192), (some (191, false)), .faddr 3 (.tmp 22)⟩,
 ⟨(some 193), (some (191, false)), .load false 1 (.tmp 192)⟩,
 ⟨(some 194), (some (191, false)), .bin .gtr (.tmp 193) (.lit (.int .i64 60))⟩,
 ⟨(some 195), none, .pick (.tmp 191) (.lit (.bool true)) (.tmp 194)⟩])
 (.cond (.tmp 195) (.exit 3)
 (.skip)))
 (.seq (.reg [⟨(some 197), none, .load true 10 (.tmp 22)⟩,
 ⟨(some 198), none, .mov (.tmp 7)⟩,
 ⟨(some 199), none, .call (.fn 14) [(.tmp 197), (.tmp 198)]⟩,
 ⟨(some 196), none, .mov (.tmp 199)⟩,
 ⟨(some 200), none, .ext (.tmp 196) 0⟩,
 ⟨(some 201), none, .ext (.tmp 196) 1⟩,
 ⟨(some 23), none, .alloc [(.int .i64 0), (.int .i64 0)]⟩,
 ⟨none, none, .store 2 (.tmp 23) (.tmp 200)⟩,
 ⟨(some 24), none, .mov (.tmp 201)⟩])
 (.seq (.reg [⟨(some 202), none, .mov (.tmp 24)⟩,
 ⟨(some 203), none, .bin .neq (.tmp 202) (.lit (.int .i64 0))⟩,
 ⟨(some 204), none, .mov (.tmp 203)⟩,
 ⟨(some 205), (some (204, false)), .faddr 0 (.tmp 23)⟩,
 ⟨(some 206), (some (204, false)), .load false 1 (.tmp 205)⟩,
 ⟨(some 207), (some (204, false)), .mov (.tmp 8)⟩,
 ⟨(some 208), (some (204, false)), .bin .geq (.tmp 206) (.tmp 207)⟩,
 ⟨(some 209), (some (204, false)), .mov (.tmp 21)⟩,
 ⟨(some 210), (some (204, false)), .bin .eql (.tmp 209) (.lit (.int .i64 0))⟩,
 ⟨(some 211), (some (204, false)), .eqb true (.tmp 208) (.tmp 210)⟩,
 ⟨(some 212), none, .pick (.tmp 204) (.lit (.bool true)) (.tmp 211)⟩])
 (.cond (.tmp 212) (.seq (.reg [⟨(some 6), none, .mov (.lit (.bool false))⟩])
 (.ret))
 (.skip)))))))))
 (.reg [⟨(some 213), none, .bin .add (.tmp 175) (.lit (.int .i64 1))⟩,
 ⟨(some 175), none, .mov (.tmp 213)⟩])))))))
 (.seq (.reg [⟨(some 215), none, .load true 10 (.tmp 3)⟩,
 ⟨(some 216), none, .mov (.tmp 7)⟩,
 ⟨(some 217), none, .call (.fn 32) [(.tmp 215), (.tmp 216), (.lit (.int .i64 61))]⟩,
 ⟨(some 214), none, .mov (.tmp 217)⟩,
 ⟨(some 218), none, .ext (.tmp 214) 0⟩,
 ⟨(some 219), none, .ext (.tmp 214) 1⟩,
 ⟨(some 25), none, .mov (.tmp 218)⟩,
 ⟨(some 26), none, .mov (.tmp 219)⟩])
 (.seq (.reg [⟨(some 221), none, .load true 10 (.tmp 3)⟩,
 ⟨(some 222), none, .mov (.tmp 7)⟩,
 ⟨(some 223), none, .call (.fn 34) [(.tmp 221), (.tmp 222), (.lit (.int .i64 (-1)))]⟩,
 ⟨(some 220), none, .mov (.tmp 223)⟩,
 ⟨(some 224), none, .ext (.tmp 220) 0⟩,
 ⟨(some 225), none, .ext (.tmp 220) 1⟩,
 ⟨(some 27), none, .mov (.tmp 224)⟩,
 ⟨(some 28), none, .mov (.tmp 225)⟩])
 (.seq (.reg [⟨(some 227), none, .load true 10 (.tmp 3)⟩,
 ⟨(some 228), none, .call (.fn 33) [(.tmp 227), (.lit (.int .i64 61))]⟩,
 ⟨(some 226), none, .mov (.tmp 228)⟩,
 ⟨(some 229), none, .ext (.tmp 226) 0⟩,
 ⟨(some 230), none, .ext (.tmp 226) 1⟩,
 ⟨(some 29), none, .mov (.tmp 229)⟩,
 ⟨(some 30), none, .mov (.tmp 230)⟩])
 (.seq (.reg [⟨(some 231), none, .mov (.tmp 13)⟩,
 ⟨(some 232), none, .bin .geq (.tmp 231) (.lit (.int .i64 0))⟩,
 ⟨(some 233), none, .mov (.tmp 232)⟩,
 ⟨(some 234), (some (233, true)), .mov (.tmp 26)⟩,
 ⟨(some 235), (some (233, true)), .bin .eql (.tmp 234) (.lit (.int .i64 2))⟩,
 ⟨(some 236), none, .pick (.tmp 233) (.tmp 235) (.lit (.bool false))⟩,
 ⟨(some 237), none, .mov (.tmp 236)⟩,
 ⟨(some 238), (some (237, true)), .mov (.tmp 28)⟩,
 ⟨(some 239), (some (237, true)), .mov (.tmp 26)⟩,
 ⟨(some 240), (some (237, true)), .bin .eql (.tmp 238) (.tmp 239)⟩,
 ⟨(some 241), none, .pick (.tmp 237) (.tmp 240) (.lit (.bool false))⟩,
 ⟨(some 242), none, .mov (.tmp 241)⟩,
 ⟨(some 243), (some (242, true)), .mov (.tmp 30)⟩,
 ⟨(some 244), (some (242, true)), .mov (.tmp 26)⟩,
 ⟨(some 245), (some (242, true)), .bin .eql (.tmp 243) (.tmp 244)⟩,
 ⟨(some 246), none, .pick (.tmp 242) (.tmp 245) (.lit (.bool false))⟩,
 ⟨(some 247), none, .mov (.tmp 246)⟩,
 ⟨(some 248), (some (247, true)), .call (.fn 24) []⟩,
 ⟨(some 249), none, .pick (.tmp 247) (.tmp 248) (.lit (.bool false))⟩,
 ⟨(some 6), none, .mov (.tmp 249)⟩])
 (.ret))))))))))))))
theorem k9 : FnC Try.prog 9 250 [] [] [.tmp 6] c9 3 := ⟨Try.f9, _, Try.func9, rfl, by decide, rfl, by decide, by kernel_rfl, by kernel_rfl⟩
end Go.Proofs.Ytcpkkjbkbdmopaa

/- RailWhen: from when on there are enough, and how many more would be. -/
namespace Go.Proofs.Ytcpkkjbkbdmopaa
open Go Go.Ab

/-- What was at hand an hour before. -/
def Ra.last (r : Ra) : Nat → Int × Int
  | 0 => (-1, -1)
  | j + 1 => (max 0 (r.ready j).1, max 0 (r.ready j).2)

def WhA (r : Ra) (hour many : Nat) (s : St) : Prop := lk s.env 3 = .ptr 0 0 ∧ lk s.env 7 = .t (vi hour) ∧ lk s.env 8 = .t (vi many) ∧ s.σ = [.cells ((tw3 r.tw ++ ra7 r).map .t)] ∧ s.df = [] ∧ s.k = 0

set_option maxRecDepth 8000 in
set_option maxHeartbeats 8000000 in
theorem RailWhen_ok (r : Ra) (hL : Lens r) (w1 : Nat) (hw1 : w1 < 256) (w2 : Nat) (hw2 : w2 < 256) : ACall Try.prog 9 [.t (tRa r), .t (.lit (.int .u8 w1)), .t (.lit (.int .u8 w2))] [] (ret (vb true)) := by
  refine ACall.walk k9 ?_
  have hlong := long_ok r
  have hrail := rrail_ok r hL.l
  unfold c9
  refine awpL_chop 3 (c1 := ?a1) (c2 := ?a2) (fun s => r.OK ∧ r.ok = true ∧ WhA r (w1 % (r.H + 1)) (w2 % 61) s) ?hc ?_ ?_
  case hc => simp only [chop]; rfl
  · unfold tRa at hlong hrail ⊢
    unfold tw3 ra7 at hlong hrail ⊢
    simp only [List.cons_append, List.nil_append] at hlong hrail
    simp only [go_sem, Nat.reduceEqDiff, Nat.reduceAdd]
    refine ACallL.quiet1 hlong rfl rfl rfl ?_
    cases h1 : r.long
    rotate_left
    · simp only [go_sem, Nat.reduceEqDiff, Bool.not_true, undef]
      refine aliveL ?_
      simp only [go_sem, Nat.reduceEqDiff]
      exact finL_ret [] ⟨rfl, rfl, rfl, rfl, _, rfl, ret_mk rfl⟩
    simp only [go_sem, Nat.reduceEqDiff, Nat.reduceAdd, beq_self_eq_true]
    refine ACallL.quiet1 hrail rfl rfl rfl ?_
    cases hok : r.ok
    · simp only [go_sem, Nat.reduceEqDiff, Bool.not_false, beq_self_eq_true]
      refine aliveL ?_
      simp only [go_sem, Nat.reduceEqDiff]
      exact finL_ret [] ⟨rfl, rfl, rfl, rfl, _, rfl, ret_mk rfl⟩
    have hr := (r.ok_iff).1 hok
    obtain ⟨g1, g2, g3⟩ := hr.H
    have e1 : IntKind.i64.wrap (w1 : Int) = w1 := wrap_id (by omega) (by omega)
    have e2 : IntKind.i64.wrap (w2 : Int) = w2 := wrap_id (by omega) (by omega)
    have e3 : IntKind.i64.wrap (r.hours + 1) = ((r.H + 1 : Nat) : Int) := by rw [g3, wrap_id (by omega) (by omega)]; omega
    have e4 : (((r.H + 1 : Nat) : Int) = 0) = False := by simp; omega
    have e5 : (w2 : Int).tmod 61 = ((w2 % 61 : Nat) : Int) := mod_nat w2 61
    simp only [go_sem, Nat.reduceEqDiff, Nat.reduceAdd, Nat.reduceLeDiff, Bool.not_true, Int.reduceEq, beq_self_eq_true, e1, e2, e3, e4, e5, mod_nat]
    exact ⟨hr, rfl, rfl, rfl, rfl, rfl, rfl⟩
  rintro ⟨env, σ, df, k⟩ ⟨hr, hok, q3, q7, q8, hσ, hdf, hk⟩
  simp only at q3 q7 q8 hσ hdf hk
  subst hσ hdf hk
  obtain ⟨g1, g2, g3⟩ := hr.H
  obtain ⟨hour, hhe, hh⟩ : ∃ n, w1 % (r.H + 1) = n ∧ n ≤ r.H := ⟨_, rfl, by have := Nat.mod_lt w1 (show 0 < r.H + 1 by omega); omega⟩
  obtain ⟨many, hme, hm⟩ : ∃ n, w2 % 61 = n ∧ n ≤ 60 := ⟨_, rfl, by omega⟩
  rw [hhe] at q7
  rw [hme] at q8
  clear hhe hme
  have hW := When_ok r many hL
  have hE := Enough_ok r hour many hL
  have hB := Buy_ok r hour many hL
  have sW : specWhen r many = _ := ans_in hok (isMany_in hm) _ _
  have hin : (r.isH hour && isMany many) = true := by rw [isH_in hr hh, isMany_in hm]; rfl
  have sE : specEnough r hour many = _ := ans_in hok hin _ _
  have sB : specBuy r hour many = _ := ans_in hok hin _ _
  rw [Int.toNat_natCast] at sE sB
  obtain ⟨W1, W2, eW⟩ : ∃ a b, specWhen r many = (a, b) := ⟨_, _, rfl⟩
  obtain ⟨N1, N2, eN⟩ : ∃ a b, specEnough r hour many = (a, b) := ⟨_, _, rfl⟩
  obtain ⟨M1, M2, eM⟩ : ∃ a b, specBuy r hour many = (a, b) := ⟨_, _, rfl⟩
  rw [eW] at hW sW
  rw [eN] at hE sE
  rw [eM] at hB sB
  refine awpL_chop 4 (c1 := ?b1) (c2 := ?b2) (fun s => WhA r hour many { s with σ := s.σ.take 1 } ∧ lk s.env 9 = .t (vi W1) ∧ lk s.env 10 = .t (vi W2) ∧ lk s.env 11 = .t (vi N1) ∧ lk s.env 12 = .t (vi N2) ∧ lk s.env 13 = .t (vi M1) ∧ lk s.env 14 = .t (vi M2) ∧ lk s.env 15 = .ptr 1 0 ∧ s.σ = [.cells ((tw3 r.tw ++ ra7 r).map .t), .cells [.t (vi (-1)), .t (vi (-1))]]) ?hc2 ?_ ?_
  case hc2 => simp only [chop]; rfl
  · unfold tRa at hW hE hB
    unfold tw3 ra7 at hW hE hB ⊢
    simp only [List.cons_append, List.nil_append] at hW hE hB
    simp only [go_sem, Nat.reduceEqDiff, Nat.reduceAdd, q3, q8]
    refine ACallL.fresh1 hW rfl ?_
    simp only [oneE, go_sem, Nat.reduceEqDiff, Nat.reduceAdd, q3, q7, q8]
    refine ACallL.fresh1 hE rfl ?_
    simp only [oneE, go_sem, Nat.reduceEqDiff, Nat.reduceAdd, q3, q7, q8]
    refine ACallL.fresh1 hB rfl ?_
    simp only [oneE, go_sem, Nat.reduceEqDiff, Int.reduceNeg]
    refine spanL ?_
    simp only [tS, go_sem, Nat.reduceEqDiff, Nat.reduceAdd, Int.reduceNeg, undef]
    exact ⟨q3, q7, q8, rfl, rfl, rfl⟩
  rintro ⟨env, σ, df, k⟩ ⟨⟨q3, q7, q8, -, hdf, hk⟩, q9, q10, q11, q12, q13, q14, q15, hσ⟩
  simp only at q3 q7 q8 q9 q10 q11 q12 q13 q14 q15 hσ hdf hk
  subst hσ hdf hk
  have e71 : IntKind.i64.wrap (r.hours + 1) = ((r.H + 1 : Nat) : Int) := by rw [g3, wrap_id (by omega) (by omega)]; omega
  cases hT : isT r.tw
  · -- no truth
    rw [hT, if_neg (by decide)] at sW sE sB
    obtain ⟨rfl, rfl⟩ := Prod.mk.inj sW
    obtain ⟨rfl, rfl⟩ := Prod.mk.inj sE
    obtain ⟨rfl, rfl⟩ := Prod.mk.inj sB
    have hR := Ready_ok r 0 hL
    rw [show ((0 : Int)) = ((0 : Nat) : Int) from rfl, specReady_at hr hok (Nat.zero_le _), hT, if_neg (by decide)] at hR
    simp only [spanE, tS] at hR
    unfold tRa at hR
    unfold tw3 ra7 at hR ⊢
    simp only [List.cons_append, List.nil_append] at hR
    have z : decide ((0 : Int) < ((r.H + 1 : Nat) : Int)) = true := decide_eq_true (by omega)
    simp only [go_sem, Nat.reduceEqDiff, Nat.reduceAdd, Nat.reduceLeDiff, Int.reduceNeg, q3, e71]
    refine awpL_loopK 0 (fun _ s => s = { env := [(72, .t (vi 0)), (71, .t (vi (r.H + 1 : Nat))), (3, .ptr 0 0), (7, .t (vi hour)), (8, .t (vi many)), (9, .t (vi 0)), (10, .t (vi 10)), (11, .t (vi 0)), (12, .t (vi 10)), (13, .t (vi 0)), (14, .t (vi 10))], σ := [.cells ((tw3 r.tw ++ ra7 r).map .t)] })
      ⟨_, Sub.gc [0] [72, 71, 3, 7, 8, 9, 10, 11, 12, 13, 14] rfl rfl, St.gc_mk (by simp only [List.map_cons, List.map_nil, lk, Nat.reduceEqDiff, reduceIte, q3, q7, q8, q9, q10, q11, q12, q13, q14]; rfl) rfl rfl rfl⟩ ?_
    rintro k s - rfl
    unfold tw3 ra7
    simp only [go_sem, Nat.reduceEqDiff, Nat.reduceAdd, z]
    refine ACallL.fresh1 hR rfl ?_
    simp only [go_sem, Nat.reduceEqDiff, Nat.reduceAdd, Int.reduceBNe, undef, beq_self_eq_true, bne_self_eq_false]
    refine aliveL ?_
    simp only [go_sem, Nat.reduceEqDiff]
    exact finL_ret [] ⟨rfl, rfl, rfl, rfl, _, rfl, ret_mk rfl⟩
  -- there are truths
  rw [hT, if_pos rfl] at sW sE sB
  have hmono := fun h h' (hh : h ≤ h') => r.ready_mono hr hh
  have hbd := fun h => r.ready_bd hr hT h
  have sR := fun (j : Nat) (hj : j ≤ r.H) => specReady_at (h := j) hr hok hj
  rw [hT] at sR
  obtain ⟨hN, rfl⟩ := Prod.mk.inj sE
  obtain ⟨hM, rfl⟩ := Prod.mk.inj sB
  have hWz : W2 = 0 ∨ W2 = 4 := by
    cases hw : r.when many <;> (rw [hw] at sW; obtain ⟨rfl, rfl⟩ := Prod.mk.inj sW; omega)
  have hWj : ∀ j : Nat, j ≤ r.H → decide (max 0 (r.ready j).1 ≥ (many : Int)) = ((W2 == 0) && decide ((j : Int) ≥ W1)) := by
    intro j hj
    cases hw : r.when many with
    | none =>
      rw [hw] at sW
      obtain ⟨rfl, rfl⟩ := Prod.mk.inj sW
      have := Ra.when_none hw hj
      exact decide_eq_false (by omega)
    | some x =>
      rw [hw] at sW
      obtain ⟨rfl, rfl⟩ := Prod.mk.inj sW
      have := Ra.when_some hr hw hj
      show _ = (true && _)
      rw [Bool.true_and]
      exact decide_eq_decide.2 (by omega)
  clear sW
  refine awpL_chop 1 (c1 := ?d1) (c2 := ?d2) (fun s => lk s.env 3 = .ptr 0 0 ∧ lk s.env 7 = .t (vi hour) ∧ lk s.env 8 = .t (vi many) ∧ lk s.env 10 = .t (vi W2) ∧ lk s.env 13 = .t (vi M1) ∧ (∃ o, s.σ = [.cells ((tw3 r.tw ++ ra7 r).map .t), o]) ∧ s.df = [] ∧ s.k = 0) ?hc3 ?_ ?_
  case hc3 => simp only [chop]; rfl
  · unfold tw3 ra7
    simp only [go_sem, Nat.reduceEqDiff, Nat.reduceAdd, Nat.reduceLeDiff, Int.reduceNeg, q3, e71]
    refine awpL_for (i := 72) (L := 71) (r.H + 1) (fun j s => s = { env := [(72, .t (vi j)), (71, .t (vi (r.H + 1 : Nat))), (3, .ptr 0 0), (7, .t (vi hour)), (8, .t (vi many)), (9, .t (vi W1)), (10, .t (vi W2)), (11, .t (vi N1)), (12, .t (vi 0)), (13, .t (vi M1)), (14, .t (vi 0)), (15, .ptr 1 0)], σ := [.cells ((tw3 r.tw ++ ra7 r).map .t), .cells [.t (vi (r.last j).1), .t (vi (r.last j).2)]] }) ?_
      ⟨_, Sub.gc [0, 1] [72, 71, 3, 7, 8, 9, 10, 11, 12, 13, 14, 15] rfl rfl, St.gc_mk (by simp only [List.map_cons, List.map_nil, lk, Nat.reduceEqDiff, reduceIte, q3, q7, q8, q9, q10, q11, q12, q13, q14, q15]; rfl) rfl rfl rfl⟩ ?_ ?_
    · rintro k s rfl; exact ⟨rfl, rfl⟩
    · rintro j s hj rfl
      have hR := Ready_ok r j hL
      have hj' : j ≤ r.H := by omega
      rw [sR j hj', if_pos rfl] at hR
      have hbj := hbd j
      have hWj := hWj j hj'
      have hla : (r.last j).1 ≤ max 0 (r.ready j).1 ∧ (r.last j).2 ≤ max 0 (r.ready j).2 := by
        match j with
        | 0 => exact ⟨by show (-1 : Int) ≤ _; omega, by show (-1 : Int) ≤ _; omega⟩
        | j + 1 =>
          have := hmono j (j + 1) (by omega)
          exact ⟨by show max 0 (r.ready j).1 ≤ _; omega, by show max 0 (r.ready j).2 ≤ _; omega⟩
      have hNj : j = hour → N1 = if max 0 (r.ready j).2 < (many : Int) then 0 else if max 0 (r.ready j).1 ≥ (many : Int) then 2 else 1 := by
        rintro rfl
        rw [hN]
        split
        · rw [if_neg (by omega), if_pos (by omega)]
        · rename_i hn
          split
          · rw [if_pos (by omega)]
          · rw [if_neg (by omega), if_neg (by omega)]
      have hl' : r.last (j + 1) = (max 0 (r.ready j).1, max 0 (r.ready j).2) := rfl
      rw [hl']
      have hS : max 0 (r.ready j).1 ≤ max 0 (r.ready j).2 := by omega
      have hS0 : 0 ≤ max 0 (r.ready j).1 := by omega
      simp only [spanE, tS] at hR
      generalize max 0 (r.ready j).1 = S0 at *
      generalize max 0 (r.ready j).2 = S1 at *
      generalize (r.last j).1 = L0 at *
      generalize (r.last j).2 = L1 at *
      have f1 : decide (S0 < 0) = false := decide_eq_false (by omega)
      have f2 : decide (S0 > S1) = false := decide_eq_false (by omega)
      have f3 : decide (S0 < L0) = false := decide_eq_false (by omega)
      have f4 : decide (S1 < L1) = false := decide_eq_false (by omega)
      have hw : IntKind.i64.wrap ((j : Int) + 1) = ((j + 1 : Nat) : Int) := by rw [wrap_id (by omega) (by omega)]; omega
      obtain ⟨c2, hc2⟩ : ∃ b, decide ((j : Int) ≥ W1) = b := ⟨_, rfl⟩
      obtain ⟨c3, hc3⟩ : ∃ b, (W2 == 0) = b := ⟨_, rfl⟩
      rw [hc2, hc3] at hWj
      unfold tRa at hR
      unfold tw3 ra7 at hR ⊢
      simp only [List.cons_append, List.nil_append] at hR
      have fin : ∀ (s' : St), lk s'.env 72 = .t (vi (j + 1 : Nat)) → lk s'.env 71 = .t (vi (r.H + 1 : Nat)) → lk s'.env 3 = .ptr 0 0 → lk s'.env 7 = .t (vi hour) → lk s'.env 8 = .t (vi many) → lk s'.env 9 = .t (vi W1) → lk s'.env 10 = .t (vi W2) → lk s'.env 11 = .t (vi N1) → lk s'.env 12 = .t (vi 0) → lk s'.env 13 = .t (vi M1) → lk s'.env 14 = .t (vi 0) → lk s'.env 15 = .ptr 1 0 →
          s'.σ[0]? = some (.cells ((tw3 r.tw ++ ra7 r).map .t)) → s'.σ[1]? = some (.cells [.t (vi S0), .t (vi S1)]) → s'.df = [] → s'.k = 0 → ∃ s'', Sub 0 s' s'' ∧ s'' = { env := [(72, .t (vi (j + 1 : Nat))), (71, .t (vi (r.H + 1 : Nat))), (3, .ptr 0 0), (7, .t (vi hour)), (8, .t (vi many)), (9, .t (vi W1)), (10, .t (vi W2)), (11, .t (vi N1)), (12, .t (vi 0)), (13, .t (vi M1)), (14, .t (vi 0)), (15, .ptr 1 0)], σ := [.cells ((tw3 r.tw ++ ra7 r).map .t), .cells [.t (vi S0), .t (vi S1)]], df := [], k := 0 } := by
        intro s' h1 h2 h3 h4 h5 h6 h7 h8 h9 h10 h11 h12 h13 h14 h15 h16
        refine ⟨_, Sub.gc [0, 1] [72, 71, 3, 7, 8, 9, 10, 11, 12, 13, 14, 15] (by unfold gcOK; simp; exact ⟨(List.getElem?_eq_some_iff.1 h13).1, (List.getElem?_eq_some_iff.1 h14).1⟩) rfl, ?_⟩
        refine St.gc_mk ?_ ?_ (by rw [h15]; rfl) h16
        · simp only [List.map_cons, List.map_nil, h1, h2, h3, h4, h5, h6, h7, h8, h9, h10, h11, h12]; rfl
        · unfold σgc
          rw [List.map_cons, List.map_cons, List.map_nil, List.getD_eq_getElem?_getD, List.getD_eq_getElem?_getD, h13, h14]
          show [AO.cells (((tw3 r.tw ++ ra7 r).map E.t).map (E.gc _ _ _)), _] = _
          rw [gc_row]
          rfl
      unfold tw3 ra7 at fin
      simp only [List.cons_append, List.nil_append] at fin
      simp only [go_sem, Nat.reduceEqDiff, Nat.reduceAdd]
      refine ACallL.fresh1 hR rfl ?_
      obtain ⟨c1, hc1⟩ : ∃ b, decide (S1 < (many : Int)) = b := ⟨_, rfl⟩
      have hN1 : j = hour → N1 = if c1 then 0 else if (c3 && c2) then 2 else 1 := by
        intro h
        rw [hNj h, ← hWj, ← hc1]
        simp only [decide_eq_true_eq]
      have hx : c1 = true → (c3 && c2) = false := by
        intro h
        rw [← hWj]
        rw [← hc1] at h
        have := of_decide_eq_true h
        exact decide_eq_false (by omega)
      by_cases hjh : j = hour
      · have z1 : ((j : Int) == (hour : Int)) = true := beq_iff_eq.2 (by omega)
        have z2 : ((j : Int) != (hour : Int)) = false := by unfold bne; rw [z1]; rfl
        have hN2 := hN1 hjh
        cases c3 <;> cases c2 <;> cases c1 <;> first
          | exact absurd (hx rfl) (by decide)
          | (simp only [Bool.and_true, Bool.and_false, if_true, if_false, Bool.false_eq_true] at hN2 hWj
             subst hN2
             simp only [go_sem, Nat.reduceEqDiff, Nat.reduceAdd, Nat.reduceLeDiff, Bool.not_true, undef, beq_self_eq_true, bne_self_eq_false, f1, f2, f3, f4, hWj, hc1, hc2, hc3, z2, hw]
             exact fin _ rfl rfl rfl rfl rfl rfl rfl rfl rfl rfl rfl rfl rfl rfl rfl rfl)
      · have z1 : ((j : Int) == (hour : Int)) = false := beq_eq_false_iff_ne.2 (by omega)
        have z2 : ((j : Int) != (hour : Int)) = true := bne_iff_ne.2 (by omega)
        cases c3 <;> cases c2 <;>
          (simp only [Bool.and_true, Bool.and_false] at hWj
           simp only [go_sem, Nat.reduceEqDiff, Nat.reduceAdd, Nat.reduceLeDiff, Bool.not_true, undef, beq_self_eq_true, bne_self_eq_false, f1, f2, f3, f4, hWj, hc2, hc3, z2, hw]
           exact fin _ rfl rfl rfl rfl rfl rfl rfl rfl rfl rfl rfl rfl rfl rfl rfl rfl)
    · rintro s rfl
      simp only [go_sem, Nat.reduceEqDiff]
      exact ⟨_, rfl⟩
  clear q3 q7 q8 q9 q10 q11 q12 q13 q14 q15 hWj hN
  rintro ⟨env, σ, df, k⟩ ⟨q3, q7, q8, q10, q13, ⟨o, hσ⟩, hdf, hk⟩
  simp only at q3 q7 q8 q10 q13 hσ hdf hk
  subst hσ hdf hk
  have hst := hr.stock
  have hbh := hbd hour
  have hMb : 0 ≤ M1 ∧ M1 ≤ 108 := by rw [hM]; split <;> omega
  refine awpL_chop 1 (c1 := ?e1) (c2 := ?e2) (fun s => lk s.env 3 = .ptr 0 0 ∧ lk s.env 7 = .t (vi hour) ∧ lk s.env 8 = .t (vi many) ∧ lk s.env 13 = .t (vi M1) ∧ (∃ o, s.σ = [.cells ((tw3 r.tw ++ ra7 r).map .t), o]) ∧ s.df = [] ∧ s.k = 0) ?hc4 ?_ ?_
  case hc4 => simp only [chop]; rfl
  · unfold tw3 ra7
    rcases hWz with rfl | rfl <;>
    · simp only [go_sem, Nat.reduceEqDiff, Int.reduceBNe, undef, beq_self_eq_true, bne_self_eq_false, q10]
      exact ⟨q3, q7, q8, q13, _, rfl⟩
  clear q3 q7 q8 q10 q13
  rintro ⟨env, σ, df, k⟩ ⟨q3, q7, q8, q13, ⟨o, hσ⟩, hdf, hk⟩
  simp only at q3 q7 q8 q13 hσ hdf hk
  subst hσ hdf hk
  refine awpL_chop 1 (c1 := ?f1) (c2 := ?f2) (fun s => lk s.env 3 = .ptr 0 0 ∧ lk s.env 7 = .t (vi hour) ∧ lk s.env 8 = .t (vi many) ∧ lk s.env 13 = .t (vi M1) ∧ s.σ = [.cells ((tw3 r.tw ++ ra7 r).map .t)] ∧ s.df = [] ∧ s.k = 0) ?hc5 ?_ ?_
  case hc5 => simp only [chop]; rfl
  · unfold tw3 ra7
    simp only [go_sem, Nat.reduceAdd, Nat.reduceLT, Int.reduceNeg]
    refine awpL_for (i := 175) (L := 174) 2 (fun j s => s = { env := [(175, .t (vi j)), (174, .t (vi (2 : Nat))), (173, .t (.slice 1 [vi (-1), vi 0])), (3, .ptr 0 0), (7, .t (vi hour)), (8, .t (vi many)), (13, .t (vi M1))], σ := [.cells ((tw3 r.tw ++ ra7 r).map .t)] }) ?_
      ⟨_, Sub.gc [0] [175, 174, 173, 3, 7, 8, 13] rfl rfl, St.gc_mk (by simp only [List.map_cons, List.map_nil, lk, Nat.reduceEqDiff, reduceIte, q3, q7, q8, q13]; rfl) rfl rfl rfl⟩ ?_ ?_
    · rintro k s rfl; exact ⟨rfl, rfl⟩
    · rintro j s hj rfl
      have hj : j = 0 ∨ j = 1 := by omega
      obtain ⟨d, hd⟩ : ∃ d : Int, [vi (-1), vi 0][j]? = some (vi d) ∧ (d = -1 ∨ d = 0) := by
        rcases hj with rfl | rfl
        · exact ⟨-1, rfl, .inl rfl⟩
        · exact ⟨0, rfl, .inr rfl⟩
      obtain ⟨hx, hd⟩ := hd
      have hw : IntKind.i64.wrap ((j : Int) + 1) = ((j + 1 : Nat) : Int) := by rw [wrap_id (by omega) (by omega)]; omega
      have v1 : IntKind.i64.wrap (M1 + d) = M1 + d := wrap_id (by omega) (by omega)
      have v2 : IntKind.i64.wrap (r.stock + (M1 + d)) = r.stock + (M1 + d) := wrap_id (by omega) (by omega)
      have v3 : ((j : Int) < 0) = False := by simp
      unfold tw3 ra7
      cases c1 : decide (M1 + d < 0)
      rotate_left
      · simp only [go_sem, Nat.reduceEqDiff, Nat.reduceAdd, Nat.reduceLeDiff, Bool.not_true, Int.reduceNeg, undef, hx, hw, v1, v2, c1]
        exact ⟨_, Sub.gc [0] [175, 174, 173, 3, 7, 8, 13] rfl rfl, St.gc_mk rfl rfl rfl rfl⟩
      cases c2 : decide (r.stock + (M1 + d) > 60)
      rotate_left
      · simp only [go_sem, Nat.reduceEqDiff, Nat.reduceAdd, Nat.reduceLeDiff, Int.reduceNeg, undef, beq_self_eq_true, hx, hw, v1, v2, c1, c2]
        exact ⟨_, Sub.gc [0] [175, 174, 173, 3, 7, 8, 13] rfl rfl, St.gc_mk rfl rfl rfl rfl⟩
      have hc1 := of_decide_eq_false c1
      have hc2 := of_decide_eq_false c2
      have hr' := stocked_OK hr (s := r.stock + (M1 + d)) (by omega)
      have hR := Ready_ok (r.stocked (r.stock + (M1 + d))) hour ⟨hL.b, hL.l⟩
      have sR' := specReady_at (h := hour) hr' ((Ra.ok_iff _).2 hr') (show hour ≤ r.H from hh)
      rw [show (r.stocked (r.stock + (M1 + d))).tw = r.tw from rfl, hT, if_pos rfl, stocked_ready] at sR'
      rw [sR'] at hR
      have key : decide (max 0 (r.stock + (M1 + d) - (r.all.2 + r.left true hour)) ≥ (many : Int)) = (d == 0) := by
        have hrd : (r.ready hour).1 = r.stock - (r.all.2 + r.left true hour) := rfl
        by_cases hz : (many : Int) = 0
        · rw [if_pos hz] at hM
          rcases hd with rfl | rfl
          · show _ = false
            exact decide_eq_false (by omega)
          · show _ = true
            exact decide_eq_true (by omega)
        · rw [if_neg hz] at hM
          rcases hd with rfl | rfl
          · show _ = false
            exact decide_eq_false (by omega)
          · show _ = true
            exact decide_eq_true (by omega)
      simp only [spanE, tS] at hR
      generalize max 0 (r.stock + (M1 + d) - (r.all.2 + r.left true hour)) = S0 at *
      generalize max 0 (r.stock + (M1 + d) - (r.all.1 + r.left false hour)) = S1 at *
      unfold tRa at hR
      unfold tw3 ra7 at hR
      simp only [List.cons_append, List.nil_append] at hR
      unfold Ra.stocked at hR
      simp only at hR
      simp only [go_sem, Nat.reduceEqDiff, Nat.reduceAdd, Nat.reduceLeDiff, Int.reduceNeg, undef, beq_self_eq_true, hx, v1, v2, c1, c2]
      refine ACallL.fresh1 hR rfl ?_
      rcases hd with rfl | rfl <;>
      · simp only [go_sem, Nat.reduceEqDiff, Nat.reduceAdd, Nat.reduceLeDiff, Bool.not_true, Int.reduceBEq, Int.reduceNeg, undef, beq_self_eq_true, bne_self_eq_false, hw, key]
        exact ⟨_, Sub.gc [0] [175, 174, 173, 3, 7, 8, 13] rfl rfl, St.gc_mk rfl rfl rfl rfl⟩
    · rintro s rfl
      simp only [go_sem, Nat.reduceEqDiff, Int.reduceNeg]
      rfl
  clear q3 q7 q8 q13
  rintro ⟨env, σ, df, k⟩ ⟨q3, q7, q8, q13, hσ, hdf, hk⟩
  simp only at q3 q7 q8 q13 hσ hdf hk
  subst hσ hdf hk
  have c1 := Enough_ok r hour 61 hL
  have c2 := Buy_ok r hour (-1) hL
  have c3 := When_ok r 61 hL
  have n1 : isMany 61 = false := rfl
  have n2 : isMany (-1) = false := rfl
  have s1 : specEnough r hour 61 = (0, 2) := ans_no hok (by rw [n1, Bool.and_false]) _ _
  have s2 : specBuy r hour (-1) = (0, 2) := ans_no hok (by rw [n2, Bool.and_false]) _ _
  have s3 : specWhen r 61 = (0, 2) := ans_no hok n1 _ _
  rw [s1] at c1
  rw [s2] at c2
  rw [s3] at c3
  have hM0 : decide (M1 ≥ 0) = true := decide_eq_true hMb.1
  unfold tRa at c1 c2 c3
  unfold tw3 ra7 at c1 c2 c3 ⊢
  simp only [List.cons_append, List.nil_append] at c1 c2 c3
  simp only [go_sem, Nat.reduceEqDiff, Nat.reduceAdd, q3, q7]
  refine ACallL.fresh1 c1 rfl ?_
  simp only [oneE, go_sem, Nat.reduceEqDiff, Nat.reduceAdd, Int.reduceNeg, q3, q7]
  refine ACallL.fresh1 c2 rfl ?_
  simp only [oneE, go_sem, Nat.reduceEqDiff, Nat.reduceAdd, q3]
  refine ACallL.fresh1 c3 rfl ?_
  simp only [oneE, go_sem, Nat.reduceEqDiff, beq_self_eq_true, q13, hM0]
  refine aliveL ?_
  simp only [go_sem, Nat.reduceEqDiff]
  exact finL_ret [] ⟨rfl, rfl, rfl, rfl, _, rfl, ret_mk rfl⟩
end Go.Proofs.Ytcpkkjbkbdmopaa
