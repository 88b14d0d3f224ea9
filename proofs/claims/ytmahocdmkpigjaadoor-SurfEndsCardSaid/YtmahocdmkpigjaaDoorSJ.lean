/- Proved here: laws that the statements need (SuC36, SuU, SuW). No conditions but those that each law states. -/
import Derived.Test.YtmahocdmkpigjaaDoorFL
import Derived.Test.YtmahocdmkpigjaaDoorProg
import Derived.Test.YtmahocdmkpigjaaDoorSI

set_option linter.unusedSimpArgs false
set_option linter.unusedVariables false

/- Compiled code of functions, printed by program; each is checked to be the program's. No conditions. -/
namespace Go.Proofs.YtmahocdmkpigjaaDoor
open Go Go.Ab
/-- dipworks/dipworkslaw04.SurfTrue -/
def c6 : AC :=
 .seq (.reg [⟨(some 3), none, .box (.tmp 0)⟩,
 ⟨(some 6), none, .mov (.lit (.bool false))⟩])
 (.seq (.seq (.reg [⟨(some 29), none, .load true 5 (.tmp 3)⟩,
 ⟨(some 30), none, .call (.fn 33) [(.tmp 29)]⟩,
 ⟨(some 31), none, .un .not (.tmp 30)⟩,
 ⟨(some 32), none, .mov (.tmp 31)⟩,
 ⟨(some 33), (some (32, false)), .faddr 4 (.tmp 3)⟩,
 ⟨(some 34), (some (32, false)), .load false 1 (.tmp 33)⟩,
 ⟨(some 35), (some (32, false)), .len (.tmp 34)⟩,
 ⟨(some 36), (some (32, false)), .bin .eql (.tmp 35) (.lit (.int .i64 0))⟩,
 ⟨(some 37), none, .pick (.tmp 32) (.lit (.bool true)) (.tmp 36)⟩])
 (.cond (.tmp 37) (.seq (.reg [⟨(some 38), none, .call (.fn 14) []⟩,
 ⟨(some 6), none, .mov (.tmp 38)⟩])
 (.ret))
 (.skip)))
 (.seq (.reg [⟨(some 39), none, .mov (.tmp 2)⟩,
 ⟨(some 40), none, .conv .i64 (.tmp 39)⟩,
 ⟨(some 41), none, .faddr 4 (.tmp 3)⟩,
 ⟨(some 42), none, .load false 1 (.tmp 41)⟩,
 ⟨(some 43), none, .len (.tmp 42)⟩,
 ⟨(some 44), none, .bin .rem (.tmp 40) (.tmp 43)⟩,
 ⟨(some 7), none, .mov (.tmp 44)⟩])
 (.seq (.reg [⟨(some 46), none, .load true 5 (.tmp 3)⟩,
 ⟨(some 47), none, .mov (.tmp 1)⟩,
 ⟨(some 48), none, .call (.fn 34) [(.tmp 46), (.tmp 47)]⟩,
 ⟨(some 45), none, .mov (.tmp 48)⟩,
 ⟨(some 49), none, .ext (.tmp 45) 0⟩,
 ⟨(some 50), none, .ext (.tmp 45) 1⟩,
 ⟨(some 8), none, .mov (.tmp 49)⟩,
 ⟨(some 9), none, .mov (.tmp 50)⟩])
 (.seq (.draw (.step ⟨(some 52), none, .load true 5 (.tmp 3)⟩ (
 .step ⟨(some 53), none, .faddr 4 (.tmp 3)⟩ (
 .step ⟨(some 54), none, .load false 1 (.tmp 53)⟩ (
 .step ⟨(some 55), none, .mov (.tmp 7)⟩ (
 .step ⟨(some 56), none, .iaddr 3 (.tmp 54) (.tmp 55)⟩ (
 .step ⟨(some 57), none, .load true 3 (.tmp 56)⟩ (
 .step ⟨(some 58), none, .mov (.tmp 8)⟩ (
 .step ⟨(some 59), none, .mov (.tmp 9)⟩ (
 .ev ⟨(some 60), none, .call (.fn 35) [(.tmp 52), (.tmp 57), (.tmp 58), (.tmp 59)]⟩ [⟨(some 56), none, .iaddr 3 (.tmp 54) (.tmp 55)⟩, ⟨(some 54), none, .load false 1 (.tmp 53)⟩, ⟨(some 53), none, .faddr 4 (.tmp 3)⟩] (
 .step ⟨(some 51), none, .mov (.tmp 60)⟩ (
 .step ⟨(some 61), none, .ext (.tmp 51) 0⟩ (
 .step ⟨(some 62), none, .ext (.tmp 51) 1⟩ (
 .step ⟨(some 10), none, .mov (.tmp 61)⟩ (
 .step ⟨(some 11), none, .mov (.tmp 62)⟩ (
 .done))))))
 (.stop)))))))))))
 (.seq (.reg [⟨(some 64), none, .load true 5 (.tmp 3)⟩,
 ⟨(some 65), none, .mov (.tmp 7)⟩,
 ⟨(some 66), none, .call (.fn 19) [(.tmp 64), (.tmp 65)]⟩,
 ⟨(some 63), none, .mov (.tmp 66)⟩,
 ⟨(some 67), none, .ext (.tmp 63) 0⟩,
 ⟨(some 68), none, .ext (.tmp 63) 1⟩,
 ⟨(some 69), none, .ext (.tmp 63) 2⟩,
 ⟨(some 12), none, .mov (.tmp 67)⟩,
 ⟨(some 13), none, .mov (.tmp 68)⟩,
 ⟨(some 14), none, .mov (.tmp 69)⟩])
 (.seq (.reg [⟨(some 71), none, .load true 5 (.tmp 3)⟩,
 ⟨(some 72), none, .mov (.tmp 7)⟩,
 ⟨(some 73), none, .call (.fn 21) [(.tmp 71), (.tmp 72)]⟩,
 ⟨(some 70), none, .mov (.tmp 73)⟩,
 ⟨(some 74), none, .ext (.tmp 70) 0⟩,
 ⟨(some 75), none, .ext (.tmp 70) 1⟩,
 ⟨(some 15), none, .mov (.tmp 74)⟩,
 ⟨(some 16), none, .mov (.tmp 75)⟩])
 (.seq (.reg [⟨(some 77), none, .load true 5 (.tmp 3)⟩,
 ⟨(some 78), none, .mov (.tmp 7)⟩,
 ⟨(some 79), none, .call (.fn 23) [(.tmp 77), (.tmp 78)]⟩,
 ⟨(some 76), none, .mov (.tmp 79)⟩,
 ⟨(some 80), none, .ext (.tmp 76) 0⟩,
 ⟨(some 81), none, .ext (.tmp 76) 1⟩,
 ⟨(some 17), none, .mov (.tmp 80)⟩,
 ⟨(some 18), none, .mov (.tmp 81)⟩])
 (.seq (.seq (.reg [⟨(some 82), none, .mov (.tmp 14)⟩,
 ⟨(some 83), none, .bin .neq (.tmp 82) (.lit (.int .i64 0))⟩,
 ⟨(some 84), none, .mov (.tmp 83)⟩,
 ⟨(some 85), (some (84, false)), .mov (.tmp 16)⟩,
 ⟨(some 86), (some (84, false)), .bin .neq (.tmp 85) (.lit (.int .i64 0))⟩,
 ⟨(some 87), none, .pick (.tmp 84) (.lit (.bool true)) (.tmp 86)⟩,
 ⟨(some 88), none, .mov (.tmp 87)⟩,
 ⟨(some 89), (some (88, false)), .mov (.tmp 12)⟩,
 ⟨(some 90), (some (88, false)), .mov (.tmp 13)⟩,
 ⟨(some 91), (some (88, false)), .bin .andNot (.tmp 89) (.tmp 90)⟩,
 ⟨(some 92), (some (88, false)), .bin .neq (.tmp 91) (.lit (.int .i64 0))⟩,
 ⟨(some 93), none, .pick (.tmp 88) (.lit (.bool true)) (.tmp 92)⟩,
 ⟨(some 94), none, .mov (.tmp 93)⟩,
 ⟨(some 95), (some (94, false)), .mov (.tmp 13)⟩,
 ⟨(some 96), (some (94, false)), .mov (.tmp 8)⟩,
 ⟨(some 97), (some (94, false)), .len (.tmp 96)⟩,
 ⟨(some 98), (some (94, false)), .bin .shr (.tmp 95) (.tmp 97)⟩,
 ⟨(some 99), (some (94, false)), .bin .neq (.tmp 98) (.lit (.int .i64 0))⟩,
 ⟨(some 100), none, .pick (.tmp 94) (.lit (.bool true)) (.tmp 99)⟩,
 ⟨(some 101), none, .mov (.tmp 100)⟩,
 ⟨(some 102), (some (101, false)), .mov (.tmp 18)⟩,
 ⟨(some 103), (some (101, false)), .bin .eql (.tmp 102) (.lit (.int .i64 0))⟩,
 ⟨(some 104), (some (101, false)), .mov (.tmp 13)⟩,
 ⟨(some 105), (some (101, false)), .bin .neq (.tmp 104) (.lit (.int .i64 0))⟩,
 ⟨(some 106), (some (101, false)), .eqb true (.tmp 103) (.tmp 105)⟩,
 ⟨(some 107), none, .pick (.tmp 101) (.lit (.bool true)) (.tmp 106)⟩,
 ⟨(some 108), none, .mov (.tmp 107)⟩,
 ⟨(some 109), (some (108, false)), .mov (.tmp 18)⟩,
 ⟨(some 110), (some (108, false)), .bin .neq (.tmp 109) (.lit (.int .i64 0))⟩,
 ⟨(some 111), (some (108, false)), .mov (.tmp 110)⟩,
 ⟨(some 112), (some (111, true)), .mov (.tmp 18)⟩,
 ⟨(some 113), (some (111, true)), .bin .neq (.tmp 112) (.lit (.int .i64 4))⟩,
 ⟨(some 114), (some (111, true)), .mov (.tmp 113)⟩,
 ⟨(some 115), (some (114, false)), .mov (.tmp 17)⟩,
 ⟨(some 116), (some (114, false)), .bin .neq (.tmp 115) (.lit (.int .i64 0))⟩,
 ⟨(some 117), (some (111, true)), .pick (.tmp 114) (.lit (.bool true)) (.tmp 116)⟩,
 ⟨(some 118), (some (108, false)), .pick (.tmp 111) (.tmp 117) (.lit (.bool false))⟩,
 ⟨(some 119), none, .pick (.tmp 108) (.lit (.bool true)) (.tmp 118)⟩])
 (.cond (.tmp 119) (.seq (.reg [⟨(some 6), none, .mov (.lit (.bool false))⟩])
 (.ret))
 (.skip)))
 (.seq (.reg [⟨(some 19), none, .mov (.lit (.bool false))⟩])
 (.seq (.seq (.reg [⟨(some 120), none, .mov (.tmp 10)⟩,
 ⟨(some 121), none, .len (.tmp 120)⟩,
 ⟨(some 122), none, .mov (.lit (.int .i64 0))⟩])
 (.block 0 (.loop (.seq (.reg [⟨(some 123), none, .bin .lss (.tmp 122) (.tmp 121)⟩])
 (.seq (.cond (.tmp 123) (.skip)
 (.exit 0))
 (.seq (.block 1 (.seq (.reg [⟨(some 124), none, .mov (.tmp 122)⟩,
 ⟨(some 125), none, .iaddr 1 (.tmp 120) (.tmp 122)⟩,
 ⟨(some 126), none, .load false 1 (.tmp 125)⟩,
 ⟨(some 20), none, .mov (.tmp 124)⟩,
 ⟨(some 21), none, .mov (.tmp 126)⟩])
 (.seq (.reg [⟨(some 128), none, .load true 5 (.tmp 3)⟩,
 ⟨(some 129), none, .mov (.tmp 7)⟩,
 ⟨(some 130), none, .mov (.tmp 20)⟩,
 ⟨(some 131), none, .call (.fn 17) [(.tmp 128), (.tmp 129), (.tmp 130)]⟩,
 ⟨(some 127), none, .mov (.tmp 131)⟩,
 ⟨(some 132), none, .ext (.tmp 127) 0⟩,
 ⟨(some 133), none, .ext (.tmp 127) 1⟩,
 ⟨(some 134), none, .ext (.tmp 127) 2⟩,
 ⟨(some 22), none, .mov (.tmp 132)⟩,
 ⟨(some 23), none, .mov (.tmp 133)⟩,
 ⟨(some 24), none, .mov (.tmp 134)⟩])
 (.seq (.seq (.reg [⟨(some 135), none, .mov (.tmp 24)⟩,
 ⟨(some 136), none, .bin .neq (.tmp 135) (.lit (.int .i64 0))⟩,
 ⟨(some 137), none, .mov (.tmp 136)⟩,
 ⟨(some 138), (some (137, false)), .mov (.tmp 22)⟩,
 ⟨(some 139), (some (137, false)), .faddr 0 (.tmp 3)⟩,
 ⟨(some 140), (some (137, false)), .load false 1 (.tmp 139)⟩,
 ⟨(some 141), (some (137, false)), .bin .shr (.tmp 138) (.tmp 140)⟩,
 ⟨(some 142), (some (137, false)), .bin .neq (.tmp 141) (.lit (.int .i64 0))⟩,
 ⟨(some 143), none, .pick (.tmp 137) (.lit (.bool true)) (.tmp 142)⟩,
 ⟨(some 144), none, .mov (.tmp 143)⟩,
 ⟨(some 145), (some (144, false)), .mov (.tmp 21)⟩,
 ⟨(some 146), (some (144, false)), .bin .geq (.tmp 145) (.lit (.int .i64 0))⟩,
 ⟨(some 147), (some (144, false)), .mov (.tmp 146)⟩,
 ⟨(some 148), (some (147, true)), .mov (.tmp 22)⟩,
 ⟨(some 149), (some (147, true)), .mov (.tmp 21)⟩,
 ⟨(some 150), (some (147, true)), .bin .shr (.tmp 148) (.tmp 149)⟩,
 ⟨(some 151), (some (147, true)), .bin .and (.tmp 150) (.lit (.int .i64 1))⟩,
 ⟨(some 152), (some (147, true)), .bin .eql (.tmp 151) (.lit (.int .i64 0))⟩,
 ⟨(some 153), (some (144, false)), .pick (.tmp 147) (.tmp 152) (.lit (.bool false))⟩,
 ⟨(some 154), none, .pick (.tmp 144) (.lit (.bool true)) (.tmp 153)⟩,
 ⟨(some 155), none, .mov (.tmp 154)⟩,
 ⟨(some 156), (some (155, false)), .mov (.tmp 21)⟩,
 ⟨(some 157), (some (155, false)), .bin .lss (.tmp 156) (.lit (.int .i64 0))⟩,
 ⟨(some 158), (some (155, false)), .mov (.tmp 157)⟩,
 ⟨(some 159), (some (158, true)), .mov (.tmp 23)⟩,
 ⟨(some 160), (some (158, true)), .un .not (.tmp 159)⟩,
 ⟨(some 161), (some (155, false)), .pick (.tmp 158) (.tmp 160) (.lit (.bool false))⟩,
 ⟨(some 162), none, .pick (.tmp 155) (.lit (.bool true)) (.tmp 161)⟩])
 (.cond (.tmp 162) (.seq (.reg [⟨(some 6), none, .mov (.lit (.bool false))⟩])
 (.ret))
 (.skip)))
 (.seq (.seq (.reg [⟨(some 163), none, .mov (.tmp 11)⟩,
 ⟨(some 164), none, .mov (.tmp 20)⟩,
 ⟨(some 165), none, .iaddr 1 (.tmp 163) (.tmp 164)⟩,
 ⟨(some 166), none, .load false 1 (.tmp 165)⟩,
 ⟨(some 167), none, .mov (.tmp 166)⟩,
 ⟨(some 168), (some (167, true)), .mov (.tmp 13)⟩,
 ⟨(some 169), (some (167, true)), .mov (.tmp 20)⟩,
 ⟨(some 170), (some (167, true)), .bin .shr (.tmp 168) (.tmp 169)⟩,
 ⟨(some 171), (some (167, true)), .bin .and (.tmp 170) (.lit (.int .i64 1))⟩,
 ⟨(some 172), (some (167, true)), .bin .eql (.tmp 171) (.lit (.int .i64 0))⟩,
 ⟨(some 173), (some (167, true)), .mov (.tmp 172)⟩,
 ⟨(some 174), (some (173, false)), .mov (.tmp 20)⟩,
 ⟨(some 175), (some (173, false)), .mov (.tmp 17)⟩,
 ⟨(some 176), (some (173, false)), .bin .lss (.tmp 174) (.tmp 175)⟩,
 ⟨(some 177), (some (167, true)), .pick (.tmp 173) (.lit (.bool true)) (.tmp 176)⟩,
 ⟨(some 178), none, .pick (.tmp 167) (.tmp 177) (.lit (.bool false))⟩,
 ⟨(some 179), none, .mov (.tmp 178)⟩,
 ⟨(some 180), (some (179, false)), .mov (.tmp 11)⟩,
 ⟨(some 181), (some (179, false)), .mov (.tmp 20)⟩,
 ⟨(some 182), (some (179, false)), .iaddr 1 (.tmp 180) (.tmp 181)⟩,
 ⟨(some 183), (some (179, false)), .load false 1 (.tmp 182)⟩,
 ⟨(some 184), (some (179, false)), .un .not (.tmp 183)⟩,
 ⟨(some 185), (some (179, false)), .mov (.tmp 184)⟩,
 ⟨(some 186), (some (185, true)), .mov (.tmp 12)⟩,
 ⟨(some 187), (some (185, true)), .mov (.tmp 20)⟩,
 ⟨(some 188), (some (185, true)), .bin .shr (.tmp 186) (.tmp 187)⟩,
 ⟨(some 189), (some (185, true)), .bin .and (.tmp 188) (.lit (.int .i64 1))⟩,
 ⟨(some 190), (some (185, true)), .bin .eql (.tmp 189) (.lit (.int .i64 1))⟩,
 ⟨(some 191), (some (179, false)), .pick (.tmp 185) (.tmp 190) (.lit (.bool false))⟩,
 ⟨(some 192), none, .pick (.tmp 179) (.lit (.bool true)) (.tmp 191)⟩,
 ⟨(some 193), none, .mov (.tmp 192)⟩,
 ⟨(some 194), (some (193, false)), .mov (.tmp 18)⟩,
 ⟨(some 195), (some (193, false)), .bin .eql (.tmp 194) (.lit (.int .i64 0))⟩,
 ⟨(some 196), (some (193, false)), .mov (.tmp 195)⟩,
 ⟨(some 197), (some (196, true)), .mov (.tmp 13)⟩,
 ⟨(some 198), (some (196, true)), .mov (.tmp 17)⟩,
 ⟨(some 199), (some (196, true)), .bin .shl (.lit (.int .i64 1)) (.tmp 198)⟩,
 ⟨(some 200), (some (196, true)), .bin .sub (.tmp 199) (.lit (.int .i64 1))⟩,
 ⟨(some 201), (some (196, true)), .bin .and (.tmp 197) (.tmp 200)⟩,
 ⟨(some 202), (some (196, true)), .bin .neq (.tmp 201) (.lit (.int .i64 0))⟩,
 ⟨(some 203), (some (196, true)), .mov (.tmp 202)⟩,
 ⟨(some 204), (some (203, false)), .mov (.tmp 13)⟩,
 ⟨(some 205), (some (203, false)), .mov (.tmp 17)⟩,
 ⟨(some 206), (some (203, false)), .bin .shr (.tmp 204) (.tmp 205)⟩,
 ⟨(some 207), (some (203, false)), .bin .and (.tmp 206) (.lit (.int .i64 1))⟩,
 ⟨(some 208), (some (203, false)), .bin .eql (.tmp 207) (.lit (.int .i64 0))⟩,
 ⟨(some 209), (some (196, true)), .pick (.tmp 203) (.lit (.bool true)) (.tmp 208)⟩,
 ⟨(some 210), (some (193, false)), .pick (.tmp 196) (.tmp 209) (.lit (.bool false))⟩,
 ⟨(some 211), none, .pick (.tmp 193) (.lit (.bool true)) (.tmp 210)⟩])
 (.cond (.tmp 211) (.seq (.reg [⟨(some 6), none, .mov (.lit (.bool false))⟩])
 (.ret))
 (.skip)))
 (.seq (.reg [⟨(some 212), none, .mov (.tmp 21)⟩,
 ⟨(some 213), none, .bin .lss (.tmp 212) (.lit (.int .i64 0))⟩,
 ⟨(some 19), none, .mov (.tmp 213)⟩])
 (.seq (.reg [⟨(some 214), none, .faddr 0 (.tmp 3)⟩,
 ⟨(some 215), none, .load false 1 (.tmp 214)⟩,
 ⟨(some 216), none, .mov (.lit (.int .i64 0))⟩])
 (.block 2 (.loop (.seq (.reg [⟨(some 217), none, .bin .lss (.tmp 216) (.tmp 215)⟩])
 (.seq (.cond (.tmp 217) (.skip)
 (.exit 2))
 (.seq (.block 3 (.seq (.reg [⟨(some 218), none, .mov (.tmp 216)⟩,
 ⟨(some 25), none, .mov (.tmp 218)⟩])
 (.seq (.reg [⟨(some 220), none, .load true 5 (.tmp 3)⟩,
 ⟨(some 221), none, .mov (.tmp 20)⟩,
 ⟨(some 222), none, .mov (.tmp 25)⟩,
 ⟨(some 223), none, .call (.fn 15) [(.tmp 220), (.tmp 221), (.tmp 222)]⟩,
 ⟨(some 219), none, .mov (.tmp 223)⟩,
 ⟨(some 224), none, .ext (.tmp 219) 0⟩,
 ⟨(some 225), none, .ext (.tmp 219) 1⟩,
 ⟨(some 26), none, .alloc [(.int .i64 0), (.int .i64 0)]⟩,
 ⟨none, none, .store 2 (.tmp 26) (.tmp 224)⟩,
 ⟨(some 27), none, .mov (.tmp 225)⟩])
 (.seq (.draw (.step ⟨(some 226), none, .mov (.tmp 8)⟩ (
 .step ⟨(some 227), none, .mov (.tmp 20)⟩ (
 .step ⟨(some 228), none, .iaddr 1 (.tmp 226) (.tmp 227)⟩ (
 .step ⟨(some 229), none, .load false 1 (.tmp 228)⟩ (
 .step ⟨(some 230), none, .faddr 1 (.tmp 3)⟩ (
 .step ⟨(some 231), none, .load false 1 (.tmp 230)⟩ (
 .step ⟨(some 232), none, .mov (.tmp 25)⟩ (
 .step ⟨(some 233), none, .bin .mul (.tmp 231) (.tmp 232)⟩ (
 .step ⟨(some 234), none, .bin .sub (.tmp 229) (.tmp 233)⟩ (
 .step ⟨(some 235), none, .mxmn true (.lit (.int .i64 0)) [(.tmp 234)]⟩ (
 .step ⟨(some 28), none, .mov (.tmp 235)⟩ (
 .done)))))))))))))
 (.seq (.reg [⟨(some 236), none, .mov (.tmp 27)⟩,
 ⟨(some 237), none, .bin .neq (.tmp 236) (.lit (.int .i64 0))⟩,
 ⟨(some 238), none, .mov (.tmp 237)⟩,
 ⟨(some 239), (some (238, false)), .mov (.tmp 28)⟩,
 ⟨(some 240), (some (238, false)), .faddr 0 (.tmp 26)⟩,
 ⟨(some 241), (some (238, false)), .load false 1 (.tmp 240)⟩,
 ⟨(some 242), (some (238, false)), .bin .lss (.tmp 239) (.tmp 241)⟩,
 ⟨(some 243), none, .pick (.tmp 238) (.lit (.bool true)) (.tmp 242)⟩,
 ⟨(some 244), none, .mov (.tmp 243)⟩,
 ⟨(some 245), (some (244, false)), .mov (.tmp 28)⟩,
 ⟨(some 246), (some (244, false)), .faddr 1 (.tmp 26)⟩,
 ⟨(some 247), (some (244, false)), .load false 1 (.tmp 246)⟩,
 ⟨(some 248), (some (244, false)), .bin .gtr (.tmp 245) (.tmp 247)⟩,
 ⟨(some 249), none, .pick (.tmp 244) (.lit (.bool true)) (.tmp 248)⟩])
 (.cond (.tmp 249) (.seq (.reg [⟨(some 6), none, .mov (.lit (.bool false))⟩])
 (.ret))
 (.skip)))))))
 (.reg [⟨(some 250), none, .bin .add (.tmp 216) (.lit (.int .i64 1))⟩,
 ⟨(some 216), none, .mov (.tmp 250)⟩])))))))))))))
 (.reg [⟨(some 251), none, .bin .add (.tmp 122) (.lit (.int .i64 1))⟩,
 ⟨(some 122), none, .mov (.tmp 251)⟩])))))))
 (.seq (.reg [⟨(some 252), none, .mov (.tmp 15)⟩,
 ⟨(some 253), none, .bin .neq (.tmp 252) (.lit (.int .i64 2))⟩,
 ⟨(some 254), none, .mov (.tmp 253)⟩,
 ⟨(some 255), (some (254, false)), .mov (.tmp 19)⟩,
 ⟨(some 256), none, .pick (.tmp 254) (.lit (.bool true)) (.tmp 255)⟩,
 ⟨(some 257), none, .mov (.tmp 256)⟩,
 ⟨(some 258), (some (257, true)), .mov (.tmp 15)⟩,
 ⟨(some 259), (some (257, true)), .bin .neq (.tmp 258) (.lit (.int .i64 0))⟩,
 ⟨(some 260), (some (257, true)), .mov (.tmp 259)⟩,
 ⟨(some 261), (some (260, false)), .mov (.tmp 19)⟩,
 ⟨(some 262), (some (260, false)), .un .not (.tmp 261)⟩,
 ⟨(some 263), (some (257, true)), .pick (.tmp 260) (.lit (.bool true)) (.tmp 262)⟩,
 ⟨(some 264), none, .pick (.tmp 257) (.tmp 263) (.lit (.bool false))⟩,
 ⟨(some 265), none, .mov (.tmp 264)⟩,
 ⟨(some 266), (some (265, true)), .call (.fn 14) []⟩,
 ⟨(some 267), none, .pick (.tmp 265) (.tmp 266) (.lit (.bool false))⟩,
 ⟨(some 6), none, .mov (.tmp 267)⟩])
 (.ret))))))))))))
theorem k6 : FnC Tryd.prog 6 268 [] [] [.tmp 6] c6 3 := ⟨Tryd.f6, _, Tryd.func6, rfl, by decide, rfl, by decide, by kernel_rfl, by kernel_rfl⟩
end Go.Proofs.YtmahocdmkpigjaaDoor

/- SurfTrue. -/
namespace Go.Proofs.YtmahocdmkpigjaaDoor
open Go Go.Ab

theorem hoursP_mem {x y : Sp} {w v : Int} (h1 : x.1 ≤ w ∧ w ≤ x.2) (h2 : y.1 ≤ v ∧ v ≤ y.2) : (w, v) ∈ hoursP x y := by
  unfold hoursP hourRow
  simp only [List.mem_flatMap, List.mem_map, List.mem_range]
  refine ⟨(w - x.1).toNat, by unfold numS; omega, (v - y.1).toNat, by unfold numS; omega, ?_⟩
  rw [show x.1 + ((w - x.1).toNat : Int) = w by omega, show y.1 + ((v - y.1).toNat : Int) = v by omega]
def osT (s : Su) (ws : List Nat) : List Hour := (watT s ws s.water.length).zip (wavT s ws s.water.length)
theorem osT_len (s : Su) (ws : List Nat) : (osT s ws).length = s.water.length := by simp [osT, watT_len, wavT_len]
theorem osT_fst (s : Su) (ws : List Nat) : (osT s ws).map (·.1) = watT s ws s.water.length := List.map_fst_zip (by rw [watT_len, wavT_len]; exact Nat.le_refl _)
theorem osT_snd (s : Su) (ws : List Nat) : (osT s ws).map (·.2) = wavT s ws s.water.length := List.map_snd_zip (by rw [watT_len, wavT_len]; exact Nat.le_refl _)
theorem osT_at {s : Su} {ws : List Nat} {i : Nat} (hi : i < s.water.length) : (osT s ws)[i]? = some (drawI ws (2 * i + 1) (s.water.getD i (0, 0)), drawI ws (2 * i + 1 + 1) (s.waves.getD i (0, 0))) := by
  unfold osT watT wavT
  rw [List.zip_map', List.getElem?_map, List.getElem?_range hi]
  rfl
theorem osT_Tr {s : Su} (hs : s.OK) (ws : List Nat) : Tr s (osT s ws) := by
  intro i o ho
  have hi : i < s.water.length := by rw [← osT_len s ws]; exact (List.getElem?_eq_some_iff.1 ho).1
  rw [osT_at hi] at ho
  cases ho
  have hnv := hs.nv
  have hx : s.water[i]? = some (s.water.getD i (0, 0)) := by rw [List.getD_eq_getElem?_getD, List.getElem?_eq_getElem hi]; rfl
  have hy : s.waves[i]? = some (s.waves.getD i (0, 0)) := by rw [List.getD_eq_getElem?_getD, List.getElem?_eq_getElem (by omega)]; rfl
  rw [hoursL_eq hx hy]
  exact hoursP_mem (drawI_in ws _ (hs.water _ (List.mem_of_getElem? hx))) (drawI_in ws _ (hs.waves _ (List.mem_of_getElem? hy)))
theorem Tr_take {s : Su} {os : List Hour} (ht : Tr s os) (j : Nat) : Tr s (os.take j) := by
  intro i o ho
  rw [List.getElem?_take] at ho
  split at ho
  · exact ht i o ho
  · cases ho
/-- A truth's place is among those that are told. -/
theorem log_has {s : Su} {h : Hu} (hr : 0 ≤ h.row ∧ h.row < 6) {os : List Hour} (ht : Tr s os) {j : Nat} (hj : j ≤ os.length) : (logS s h j).testBit (runP s h (os.take j)) = true :=
  (log_mem s h hr j _).2 ⟨os.take j, by rw [List.length_take]; omega, Tr_take ht j, rfl⟩
theorem log_small {s : Su} {h : Hu} (hr : 0 ≤ h.row ∧ h.row < 6) (j : Nat) : logS s h j < 2 ^ (h.row.toNat + 2) := by
  apply Nat.lt_pow_two_of_testBit
  intro i hi
  rw [← Bool.not_eq_true, log_mem s h hr]
  rintro ⟨os, _, _, e⟩
  have := runP_le s h os
  omega
theorem flo_at {s : Su} {h : Hu} {os : List Hour} (ht : Tr s os) {j : Nat} (hj : j < os.length) : (os.take j).length = j ∧ Tr s (os.take j ++ [os.getD j (0, 0)]) := by
  refine ⟨by rw [List.length_take]; omega, ?_⟩
  have : os.take j ++ [os.getD j (0, 0)] = os.take (j + 1) := by rw [List.take_add_one, List.getD_eq_getElem?_getD, List.getElem?_eq_getElem hj]; rfl
  rw [this]
  exact Tr_take ht _
theorem can_of {s : Su} {h : Hu} (hr : 0 ≤ h.row ∧ h.row < 6) {os : List Hour} (ht : Tr s os) {j : Nat} (hj : j < os.length) (hf : Flo s h (os.take j) (os.getD j (0, 0)) = true) : canB s h j = true := by
  obtain ⟨h1, h2⟩ := flo_at (h := h) ht hj
  exact (canB_iff s h hr j).2 ⟨_, _, h1, h2, hf⟩
theorem sure_of {s : Su} {h : Hu} (hr : 0 ≤ h.row ∧ h.row < 6) {os : List Hour} (ht : Tr s os) {j : Nat} (hj : j < os.length) (hf : Flo s h (os.take j) (os.getD j (0, 0)) = false) : sureB s h j = false := by
  obtain ⟨h1, h2⟩ := flo_at (h := h) ht hj
  rw [← Bool.not_eq_true, sureB_iff s h hr j]
  intro hh
  rw [hh _ _ h1 h2] at hf
  cases hf
theorem sure_can {s : Su} {h : Hu} (hr : 0 ≤ h.row ∧ h.row < 6) {os : List Hour} (ht : Tr s os) {j : Nat} (hj : j < os.length) (hs : sureB s h j = true) : canB s h j = true := by
  obtain ⟨h1, h2⟩ := flo_at (h := h) ht hj
  exact (canB_iff s h hr j).2 ⟨_, _, h1, h2, (sureB_iff s h hr j).1 hs _ _ h1 h2⟩
theorem ndiff_sub {a b : Nat} (h : ∀ i, a.testBit i = true → b.testBit i = true) : ndiff a b = 0 := by
  apply Nat.eq_of_testBit_eq
  intro i
  rw [ndiff_bit, Nat.zero_testBit]
  cases ha : a.testBit i
  · rfl
  · rw [h i ha]; rfl
/-- How the first hour, and the set of hours, go together. -/
theorem before_spec (s : Su) (h : Hu) : (∃ F : Nat, specBefore s h = ((F : Int), 0) ∧ F < s.water.length ∧ canM s h ≠ 0 ∧ (canM s h).testBit F = true ∧ canM s h &&& (2 ^ F - 1) = 0 ∧ ∀ j, canB s h j = true → j < s.water.length → F ≤ j) ∨ (specBefore s h = (0, 4) ∧ canM s h = 0) := by
  by_cases c : 0 ≤ firstS s h
  · obtain ⟨F, e, hF, hc, hn⟩ := first_at s h c
    left
    have hb : (canM s h).testBit F = true := by rw [maskOf_bit, hc, decide_eq_true hF]; rfl
    refine ⟨F, by unfold specBefore; rw [if_pos c, e], hF, (fun e0 => by rw [e0, Nat.zero_testBit] at hb; cases hb), hb, ?_, fun j hj _ => ?_⟩
    · apply Nat.eq_of_testBit_eq
      intro i
      rw [Nat.testBit_and, Nat.testBit_two_pow_sub_one, Nat.zero_testBit, maskOf_bit]
      by_cases ci : i < F
      · rw [hn i ci]; simp
      · rw [decide_eq_false ci, Bool.and_false]
    · apply Classical.byContradiction
      intro g
      rw [hn j (by omega)] at hj
      cases hj
  · right
    refine ⟨by unfold specBefore; rw [if_neg c], ?_⟩
    have := (canM_zero s h).2 (by omega)
    omega
theorem deep_mono {step w w' r : Int} (h : w ≤ w') : deepI step w r ≤ deepI step w' r := by unfold deepI; omega
theorem lost_fits {s : Su} {h : Hu} (hr : 0 ≤ h.row ∧ h.row < 6) {os : List Hour} (ht : Tr s os) (hl : os.length = s.water.length) : (lostN (logS s h s.water.length) = 2 → runP s h os = 0) ∧ (lostN (logS s h s.water.length) = 0 → runP s h os ≠ 0) := by
  have h1 := log_has (h := h) hr ht (j := s.water.length) (by omega)
  rw [List.take_of_length_le (by omega)] at h1
  unfold lostN
  constructor
  · intro h2
    cases hb : (logS s h s.water.length).testBit 0
    · rw [hb] at h2; simp at h2
    · rw [hb, if_pos rfl] at h2
      by_cases c : logS s h s.water.length / 2 = 0
      · cases hk : runP s h os with
        | zero => rfl
        | succ k =>
          rw [hk] at h1
          have : (logS s h s.water.length / 2).testBit k = true := by rw [Nat.testBit_div_two]; exact h1
          rw [c, Nat.zero_testBit] at this
          cases this
      · rw [if_neg c] at h2; cases h2
  · intro h2 e
    rw [e] at h1
    rw [h1, if_pos rfl] at h2
    split at h2 <;> cases h2
end Go.Proofs.YtmahocdmkpigjaaDoor

/- SurfTrue: the law's function. -/
namespace Go.Proofs.YtmahocdmkpigjaaDoor
open Go Go.Ab

def TrMid (s : Su) (n : Nat) (h : Hu) (os : List Hour) (st : St) : Prop := lk st.env 3 = .ptr 0 0 ∧ lk st.env 7 = .t (vi n) ∧ lk st.env 8 = .t (tI (os.map (·.1))) ∧ lk st.env 11 = .t (tB (floL s h os os.length)) ∧ lk st.env 12 = .t (vi (sureM s h : Nat)) ∧ lk st.env 13 = .t (vi (canM s h : Nat)) ∧ lk st.env 15 = .t (vi (lostN (logS s h s.water.length))) ∧ lk st.env 17 = .t (vi (specBefore s h).1) ∧ lk st.env 18 = .t (vi (specBefore s h).2) ∧ lk st.env 19 = .t (vb false) ∧ lk st.env 10 = .t (tI (rowsL s h os os.length)) ∧
  st.σ = [.cells ((su5 s).map .t)] ∧ st.df = [] ∧ st.k = 0
def goneB (s : Su) (h : Hu) (os : List Hour) : Nat → Bool
  | 0 => false
  | j + 1 => decide ((runP s h (os.take (j + 1)) : Int) - 1 < 0)
def TrS (s : Su) (n : Nat) (h : Hu) (os : List Hour) (j : Nat) : List (Nat × E) := [(122, .t (vi j)), (121, .t (vi os.length)), (120, .t (tI (rowsL s h os os.length))), (3, .ptr 0 0), (7, .t (vi n)), (8, .t (tI (os.map (·.1)))), (11, .t (tB (floL s h os os.length))), (12, .t (vi (sureM s h : Nat))), (13, .t (vi (canM s h : Nat))), (15, .t (vi (lostN (logS s h s.water.length)))), (17, .t (vi (specBefore s h).1)), (18, .t (vi (specBefore s h).2)), (19, .t (vb (goneB s h os j)))]

theorem rowsL_get (s : Su) (h : Hu) (os : List Hour) {n j : Nat} (hj : j < n) : (rowsL s h os n)[j]? = some ((runP s h (os.take (j + 1)) : Int) - 1) := by unfold rowsL; rw [List.getElem?_map, List.getElem?_range hj]; rfl
theorem floL_get (s : Su) (h : Hu) (os : List Hour) {n j : Nat} (hj : j < n) : (floL s h os n)[j]? = some (Flo s h (os.take j) (os.getD j (0, 0))) := by unfold floL; rw [List.getElem?_map, List.getElem?_range hj]; rfl
def InMid (s : Su) (n : Nat) (h : Hu) (os : List Hour) (j : Nat) (st : St) : Prop := lk st.env 3 = .ptr 0 0 ∧ lk st.env 7 = .t (vi n) ∧ lk st.env 8 = .t (tI (os.map (·.1))) ∧ lk st.env 11 = .t (tB (floL s h os os.length)) ∧ lk st.env 12 = .t (vi (sureM s h : Nat)) ∧ lk st.env 13 = .t (vi (canM s h : Nat)) ∧ lk st.env 15 = .t (vi (lostN (logS s h s.water.length))) ∧ lk st.env 17 = .t (vi (specBefore s h).1) ∧ lk st.env 18 = .t (vi (specBefore s h).2) ∧ lk st.env 19 = .t (vb (goneB s h os (j + 1))) ∧ lk st.env 20 = .t (vi j) ∧ lk st.env 120 = .t (tI (rowsL s h os os.length)) ∧ lk st.env 121 = .t (vi os.length) ∧ lk st.env 122 = .t (vi j) ∧
  st.σ = [.cells ((su5 s).map .t)] ∧ st.df = [] ∧ st.k = 0
def InS (s : Su) (n : Nat) (h : Hu) (os : List Hour) (j r : Nat) : List (Nat × E) := [(216, .t (vi r)), (215, .t (vi s.rows)), (20, .t (vi j)), (122, .t (vi j)), (121, .t (vi os.length)), (120, .t (tI (rowsL s h os os.length))), (3, .ptr 0 0), (7, .t (vi n)), (8, .t (tI (os.map (·.1)))), (11, .t (tB (floL s h os os.length))), (12, .t (vi (sureM s h : Nat))), (13, .t (vi (canM s h : Nat))), (15, .t (vi (lostN (logS s h s.water.length)))), (17, .t (vi (specBefore s h).1)), (18, .t (vi (specBefore s h).2)), (19, .t (vb (goneB s h os (j + 1))))]

set_option maxRecDepth 8000 in
set_option maxHeartbeats 8000000 in
theorem SurfTrue_ok (s : Su) (hL : Lens s) (ws : List Nat) (hw : ∀ w ∈ ws, w < 65536) (hwl : ws.length < 9223372036854775808) (u : Nat) (hu : u < 256) : ACall Tryd.prog 6 [.t (.agg (su5 s)), .t (tBy ws), .t (.lit (.int .u8 u))] [] (res (.ret (.t (vb true)))) := by
  refine ACall.walk k6 ?_
  have h33 := fine_ok s hL
  unfold c6
  refine awpL_chop 10 (c1 := ?a1) (c2 := ?a2) (fun st => s.OK ∧ ∃ n h, s.huts[n]? = some h ∧ TrMid s n h (osT s ws) st) ?hc ?_ ?_
  case hc => simp only [chop]; rfl
  · unfold su5 at h33 ⊢
    simp only [go_sem, Nat.reduceEqDiff, Nat.reduceAdd, Nat.reduceSub, Nat.reduceMul, Nat.reduceLT, Nat.reduceLeDiff, Nat.reduceMod, Nat.reduceDiv, Int.reduceToNat, Int.reduceLT, Int.reduceLE, Bool.not_true, Bool.not_false, reduceIte, Int.reduceEq, Int.reduceBEq, Int.reduceBNe, Int.reduceGT, Int.reduceGE, Int.reduceNeg, Int.reduceAdd, Int.reduceSub, Nat.reduceBEq, decide_true, decide_false, undef, beq_self_eq_true, bne_self_eq_false, Bool.and_true, Bool.true_and, Bool.and_false, Bool.false_and, Bool.or_true, Bool.true_or, Bool.or_false, Bool.false_or]
    refine ACallL.quiet1 h33 rfl rfl rfl ?_
    cases hF : fineB s
    · simp only [go_sem, Nat.reduceEqDiff, Nat.reduceAdd, Nat.reduceSub, Nat.reduceMul, Nat.reduceLT, Nat.reduceLeDiff, Nat.reduceMod, Nat.reduceDiv, Int.reduceToNat, Int.reduceLT, Int.reduceLE, Bool.not_true, Bool.not_false, reduceIte, Int.reduceEq, Int.reduceBEq, Int.reduceBNe, Int.reduceGT, Int.reduceGE, Int.reduceNeg, Int.reduceAdd, Int.reduceSub, Nat.reduceBEq, decide_true, decide_false, undef, beq_self_eq_true, bne_self_eq_false, Bool.and_true, Bool.true_and, Bool.and_false, Bool.false_and, Bool.or_true, Bool.true_or, Bool.or_false, Bool.false_or, undef]
      refine ACallL.quiet1 awake_ok rfl rfl rfl ?_
      simp only [go_sem, Nat.reduceEqDiff, Nat.reduceAdd, Nat.reduceSub, Nat.reduceMul, Nat.reduceLT, Nat.reduceLeDiff, Nat.reduceMod, Nat.reduceDiv, Int.reduceToNat, Int.reduceLT, Int.reduceLE, Bool.not_true, Bool.not_false, reduceIte, Int.reduceEq, Int.reduceBEq, Int.reduceBNe, Int.reduceGT, Int.reduceGE, Int.reduceNeg, Int.reduceAdd, Int.reduceSub, Nat.reduceBEq, decide_true, decide_false, undef, beq_self_eq_true, bne_self_eq_false, Bool.and_true, Bool.true_and, Bool.and_false, Bool.false_and, Bool.or_true, Bool.true_or, Bool.or_false, Bool.false_or, undef]
      exact finL_ret [] ⟨rfl, rfl, rfl, rfl, _, rfl, res_mk rfl⟩
    obtain ⟨hok, hs⟩ := fine_iff hF
    have hnh := hs.nh
    have hnw := hs.nw
    simp only [go_sem, Nat.reduceEqDiff, Nat.reduceAdd, Nat.reduceSub, Nat.reduceMul, Nat.reduceLT, Nat.reduceLeDiff, Nat.reduceMod, Nat.reduceDiv, Int.reduceToNat, Int.reduceLT, Int.reduceLE, Bool.not_true, Bool.not_false, reduceIte, Int.reduceEq, Int.reduceBEq, Int.reduceBNe, Int.reduceGT, Int.reduceGE, Int.reduceNeg, Int.reduceAdd, Int.reduceSub, Nat.reduceBEq, decide_true, decide_false, undef, beq_self_eq_true, bne_self_eq_false, Bool.and_true, Bool.true_and, Bool.and_false, Bool.false_and, Bool.or_true, Bool.true_or, Bool.or_false, Bool.false_or, undef, List.length_map]
    cases h0 : ((s.huts.length : Int) == 0)
    rotate_left
    · simp only [go_sem, Nat.reduceEqDiff, Nat.reduceAdd, Nat.reduceSub, Nat.reduceMul, Nat.reduceLT, Nat.reduceLeDiff, Nat.reduceMod, Nat.reduceDiv, Int.reduceToNat, Int.reduceLT, Int.reduceLE, Bool.not_true, Bool.not_false, reduceIte, Int.reduceEq, Int.reduceBEq, Int.reduceBNe, Int.reduceGT, Int.reduceGE, Int.reduceNeg, Int.reduceAdd, Int.reduceSub, Nat.reduceBEq, decide_true, decide_false, undef, beq_self_eq_true, bne_self_eq_false, Bool.and_true, Bool.true_and, Bool.and_false, Bool.false_and, Bool.or_true, Bool.true_or, Bool.or_false, Bool.false_or, undef, h0]
      refine ACallL.quiet1 awake_ok rfl rfl rfl ?_
      simp only [go_sem, Nat.reduceEqDiff, Nat.reduceAdd, Nat.reduceSub, Nat.reduceMul, Nat.reduceLT, Nat.reduceLeDiff, Nat.reduceMod, Nat.reduceDiv, Int.reduceToNat, Int.reduceLT, Int.reduceLE, Bool.not_true, Bool.not_false, reduceIte, Int.reduceEq, Int.reduceBEq, Int.reduceBNe, Int.reduceGT, Int.reduceGE, Int.reduceNeg, Int.reduceAdd, Int.reduceSub, Nat.reduceBEq, decide_true, decide_false, undef, beq_self_eq_true, bne_self_eq_false, Bool.and_true, Bool.true_and, Bool.and_false, Bool.false_and, Bool.or_true, Bool.true_or, Bool.or_false, Bool.false_or, undef]
      exact finL_ret [] ⟨rfl, rfl, rfl, rfl, _, rfl, res_mk rfl⟩
    have n0 : ¬ ((s.huts.length : Int) = 0) := by simpa using h0
    have ha : u % s.huts.length < s.huts.length := Nat.mod_lt _ (by omega)
    have t1 := mod_nat u s.huts.length
    have w0 : IntKind.i64.wrap (u : Int) = u := wrap_id (by omega) (by omega)
    have hg := hut_get ha
    generalize u % s.huts.length = n at *
    generalize hhe : s.huts.getD n ⟨0, 0, 0⟩ = hh at *
    have hho := hs.huts _ (List.mem_of_getElem? hg)
    have hr6 : 0 ≤ hh.row ∧ hh.row < 6 := ⟨hho.2.2.2.2.1, by have := hho.2.2.2.2.2; have := hs.rows; omega⟩
    have ht := osT_Tr hs ws
    have hol := osT_len s ws
    have h34 := truly_ok s hs ws hw hwl
    have h35 := followL_ok s hs hh hho (osT s ws) (by omega) (fun o ho => Tr_bnd hs ht (by omega) ho)
    have h19 := Floats_ok s hs n hh hg
    have h21 := Lost_ok s hs n hh hg
    have h23 := Before_ok s hs n hh hg
    rw [osT_fst, osT_snd] at h35
    have hfst := osT_fst s ws
    have b1 : ndiff (sureM s hh) (canM s hh) = 0 := ndiff_sub fun i hi => by
      rw [maskOf_bit, Bool.and_eq_true, decide_eq_true_eq] at hi
      rw [maskOf_bit, decide_eq_true hi.1, Bool.true_and]
      exact sure_can hr6 ht (by omega) hi.2
    have l1 : sureM s hh < 2 ^ s.water.length := maskOf_lt (sureB s hh) s.water.length
    have l2 : canM s hh < 2 ^ s.water.length := maskOf_lt (canB s hh) s.water.length
    have hp : 2 ^ s.water.length ≤ 256 := Nat.pow_le_pow_right (n := 2) (j := 8) (by decide) hnw
    have a1 := bits_andNot (a := sureM s hh) (b := canM s hh) (by omega) (by omega)
    rw [b1] at a1
    have a2 : ((canM s hh : Nat) : Int).fdiv (2 ^ (min s.water.length 64)) = 0 := by
      rw [shr_nat (by omega), Nat.shiftRight_eq_div_pow, Nat.div_eq_of_lt l2]; rfl
    have hwn : ((s.water.length : Int) < 0) = False := by simp
    have hwatl : (watT s ws s.water.length).length = s.water.length := watT_len s ws s.water.length
    have hbs := before_spec s hh
    have a3 : ((specBefore s hh).2 == 0) = (((canM s hh : Nat) : Int) != 0) := by
      rcases hbs with ⟨F, e, _, h1, _⟩ | ⟨e, h1⟩
      · rw [e]
        have : (((canM s hh : Nat) : Int) != 0) = true := by rw [bne_iff_ne]; omega
        rw [this]; rfl
      · rw [e, h1]; rfl
    have a4 : (specBefore s hh).2 = 0 ∨ ((specBefore s hh).2 = 4 ∧ (specBefore s hh).1 = 0) := by
      rcases hbs with ⟨F, e, _⟩ | ⟨e, _⟩
      · rw [e]; exact .inl rfl
      · rw [e]; exact .inr ⟨rfl, rfl⟩
    simp only [oneE, twoE, su5] at h19 h21 h23 h34 h35
    have hTr : ∀ env, lk env 3 = .ptr 0 0 → lk env 7 = .t (vi n) → lk env 8 = .t (tI (watT s ws s.water.length)) → lk env 11 = .t (tB (floL s hh (osT s ws) (osT s ws).length)) → lk env 12 = .t (vi (sureM s hh : Nat)) → lk env 13 = .t (vi (canM s hh : Nat)) → lk env 15 = .t (vi (lostN (logS s hh s.water.length))) → lk env 17 = .t (vi (specBefore s hh).1) → lk env 18 = .t (vi (specBefore s hh).2) → lk env 19 = .t (vb false) → lk env 10 = .t (tI (rowsL s hh (osT s ws) (osT s ws).length)) → TrMid s n hh (osT s ws) { env := env, σ := [.cells ((su5 s).map .t)] } :=
      fun env e1 e2 e3 e4 e5 e6 e7 e8 e9 e10 e11 => ⟨e1, e2, by rw [hfst]; exact e3, e4, e5, e6, e7, e8, e9, e10, e11, rfl, rfl, rfl⟩
    have hfin : ∀ st, TrMid s n hh (osT s ws) st → s.OK ∧ ∃ n h, s.huts[n]? = some h ∧ TrMid s n h (osT s ws) st := fun st h => ⟨hs, n, hh, hg, h⟩
    generalize rowsL s hh (osT s ws) (osT s ws).length = RL at *
    generalize floL s hh (osT s ws) (osT s ws).length = FL at *
    generalize sureM s hh = SM at *
    generalize canM s hh = CM at *
    generalize specBefore s hh = SB at *
    generalize lostN (logS s hh s.water.length) = LN at *
    generalize watT s ws s.water.length = WT at *
    generalize wavT s ws s.water.length = VT at *
    clear hhe h33 b1 hbs hho hr6
    obtain ⟨f, b, r⟩ := hh
    obtain ⟨B1, B2⟩ := SB
    simp only [tHu] at h35 a3 a4 h23
    simp only [go_sem, Nat.reduceEqDiff, Nat.reduceAdd, Nat.reduceSub, Nat.reduceMul, Nat.reduceLT, Nat.reduceLeDiff, Nat.reduceMod, Nat.reduceDiv, Int.reduceToNat, Int.reduceLT, Int.reduceLE, Bool.not_true, Bool.not_false, reduceIte, Int.reduceEq, Int.reduceBEq, Int.reduceBNe, Int.reduceGT, Int.reduceGE, Int.reduceNeg, Int.reduceAdd, Int.reduceSub, Nat.reduceBEq, decide_true, decide_false, undef, beq_self_eq_true, bne_self_eq_false, Bool.and_true, Bool.true_and, Bool.and_false, Bool.false_and, Bool.or_true, Bool.true_or, Bool.or_false, Bool.false_or, undef, List.length_map, h0, n0, w0, t1]
    refine ACallL.fresh1 h34 rfl ?_
    simp only [go_sem, Nat.reduceEqDiff, Nat.reduceAdd, Nat.reduceSub, Nat.reduceMul, Nat.reduceLT, Nat.reduceLeDiff, Nat.reduceMod, Nat.reduceDiv, Int.reduceToNat, Int.reduceLT, Int.reduceLE, Bool.not_true, Bool.not_false, reduceIte, Int.reduceEq, Int.reduceBEq, Int.reduceBNe, Int.reduceGT, Int.reduceGE, Int.reduceNeg, Int.reduceAdd, Int.reduceSub, Nat.reduceBEq, decide_true, decide_false, undef, beq_self_eq_true, bne_self_eq_false, Bool.and_true, Bool.true_and, Bool.and_false, Bool.false_and, Bool.or_true, Bool.true_or, Bool.or_false, Bool.false_or, undef, List.length_map, List.getElem?_map, hg, Option.map_some, tHu]
    refine ACallL.fresh1 h35 rfl ?_
    simp only [go_sem, Nat.reduceEqDiff, Nat.reduceAdd, Nat.reduceSub, Nat.reduceMul, Nat.reduceLT, Nat.reduceLeDiff, Nat.reduceMod, Nat.reduceDiv, Int.reduceToNat, Int.reduceLT, Int.reduceLE, Bool.not_true, Bool.not_false, reduceIte, Int.reduceEq, Int.reduceBEq, Int.reduceBNe, Int.reduceGT, Int.reduceGE, Int.reduceNeg, Int.reduceAdd, Int.reduceSub, Nat.reduceBEq, decide_true, decide_false, undef, beq_self_eq_true, bne_self_eq_false, Bool.and_true, Bool.true_and, Bool.and_false, Bool.false_and, Bool.or_true, Bool.true_or, Bool.or_false, Bool.false_or, undef, List.length_map, List.getElem?_map, hg, Option.map_some, tHu]
    refine ACallL.quiet1 h19 rfl rfl rfl ?_
    simp only [go_sem, Nat.reduceEqDiff, Nat.reduceAdd, Nat.reduceSub, Nat.reduceMul, Nat.reduceLT, Nat.reduceLeDiff, Nat.reduceMod, Nat.reduceDiv, Int.reduceToNat, Int.reduceLT, Int.reduceLE, Bool.not_true, Bool.not_false, reduceIte, Int.reduceEq, Int.reduceBEq, Int.reduceBNe, Int.reduceGT, Int.reduceGE, Int.reduceNeg, Int.reduceAdd, Int.reduceSub, Nat.reduceBEq, decide_true, decide_false, undef, beq_self_eq_true, bne_self_eq_false, Bool.and_true, Bool.true_and, Bool.and_false, Bool.false_and, Bool.or_true, Bool.true_or, Bool.or_false, Bool.false_or, undef]
    refine ACallL.quiet1 h21 rfl rfl rfl ?_
    simp only [go_sem, Nat.reduceEqDiff, Nat.reduceAdd, Nat.reduceSub, Nat.reduceMul, Nat.reduceLT, Nat.reduceLeDiff, Nat.reduceMod, Nat.reduceDiv, Int.reduceToNat, Int.reduceLT, Int.reduceLE, Bool.not_true, Bool.not_false, reduceIte, Int.reduceEq, Int.reduceBEq, Int.reduceBNe, Int.reduceGT, Int.reduceGE, Int.reduceNeg, Int.reduceAdd, Int.reduceSub, Nat.reduceBEq, decide_true, decide_false, undef, beq_self_eq_true, bne_self_eq_false, Bool.and_true, Bool.true_and, Bool.and_false, Bool.false_and, Bool.or_true, Bool.true_or, Bool.or_false, Bool.false_or, undef]
    refine ACallL.quiet1 h23 rfl rfl rfl ?_
    rcases a4 with rfl | ⟨rfl, rfl⟩
    · have hcm : (((CM : Nat) : Int) != 0) = true := a3.symm
      simp only [go_sem, Nat.reduceEqDiff, Nat.reduceAdd, Nat.reduceSub, Nat.reduceMul, Nat.reduceLT, Nat.reduceLeDiff, Nat.reduceMod, Nat.reduceDiv, Int.reduceToNat, Int.reduceLT, Int.reduceLE, Bool.not_true, Bool.not_false, reduceIte, Int.reduceEq, Int.reduceBEq, Int.reduceBNe, Int.reduceGT, Int.reduceGE, Int.reduceNeg, Int.reduceAdd, Int.reduceSub, Nat.reduceBEq, decide_true, decide_false, undef, beq_self_eq_true, bne_self_eq_false, Bool.and_true, Bool.true_and, Bool.and_false, Bool.false_and, Bool.or_true, Bool.true_or, Bool.or_false, Bool.false_or, undef, a1, a2, List.length_map, hwn, hwatl, hcm]
      exact hfin _ (hTr _ rfl rfl rfl rfl rfl rfl rfl rfl rfl rfl rfl)
    · have hcm : (((CM : Nat) : Int) != 0) = false := a3.symm
      simp only [go_sem, Nat.reduceEqDiff, Nat.reduceAdd, Nat.reduceSub, Nat.reduceMul, Nat.reduceLT, Nat.reduceLeDiff, Nat.reduceMod, Nat.reduceDiv, Int.reduceToNat, Int.reduceLT, Int.reduceLE, Bool.not_true, Bool.not_false, reduceIte, Int.reduceEq, Int.reduceBEq, Int.reduceBNe, Int.reduceGT, Int.reduceGE, Int.reduceNeg, Int.reduceAdd, Int.reduceSub, Nat.reduceBEq, decide_true, decide_false, undef, beq_self_eq_true, bne_self_eq_false, Bool.and_true, Bool.true_and, Bool.and_false, Bool.false_and, Bool.or_true, Bool.true_or, Bool.or_false, Bool.false_or, undef, a1, a2, List.length_map, hwn, hwatl, hcm]
      exact hfin _ (hTr _ rfl rfl rfl rfl rfl rfl rfl rfl rfl rfl rfl)
  rintro ⟨env, σ, df, k⟩ ⟨hs, n, h, hg, q3, q7, q8, q11, q12, q13, q15, q17, q18, q19, q10, hσ, hdf, hk⟩
  simp only at q3 q7 q8 q11 q12 q13 q15 q17 q18 q19 q10 hσ hdf hk
  subst hσ hdf hk
  have ht := osT_Tr hs ws
  have hol := osT_len s ws
  generalize osT s ws = os at *
  have hho := hs.huts _ (List.mem_of_getElem? hg)
  have hrow := hs.rows
  have hst := hs.step
  have hnw := hs.nw
  have hr6 : 0 ≤ h.row ∧ h.row < 6 := ⟨hho.2.2.2.2.1, by have := hho.2.2.2.2.2; omega⟩
  have hp : 2 ^ s.water.length ≤ 256 := Nat.pow_le_pow_right (n := 2) (j := 8) (by decide) hnw
  have lS : sureM s h < 256 := Nat.lt_of_lt_of_le (maskOf_lt (sureB s h) s.water.length) hp
  have lC : canM s h < 256 := Nat.lt_of_lt_of_le (maskOf_lt (canB s h) s.water.length) hp
  have bS : ∀ j, j < s.water.length → (sureM s h).testBit j = sureB s h j := fun j hj => by rw [maskOf_bit, decide_eq_true hj, Bool.true_and]
  have bC : ∀ j, j < s.water.length → (canM s h).testBit j = canB s h j := fun j hj => by rw [maskOf_bit, decide_eq_true hj, Bool.true_and]
  have hbs := before_spec s h
  have hRl := rowsL_len s h os os.length
  simp only [go_sem, Nat.reduceEqDiff, Nat.reduceAdd, Nat.reduceSub, Nat.reduceMul, Nat.reduceLT, Nat.reduceLeDiff, Nat.reduceMod, Nat.reduceDiv, Int.reduceToNat, Int.reduceLT, Int.reduceLE, Bool.not_true, Bool.not_false, reduceIte, Int.reduceEq, Int.reduceBEq, Int.reduceBNe, Int.reduceGT, Int.reduceGE, Int.reduceNeg, Int.reduceAdd, Int.reduceSub, Nat.reduceBEq, decide_true, decide_false, undef, beq_self_eq_true, bne_self_eq_false, Bool.and_true, Bool.true_and, Bool.and_false, Bool.false_and, Bool.or_true, Bool.true_or, Bool.or_false, Bool.false_or, undef, q3, q7, q8, q11, q12, q13, q15, q17, q18, q19, q10, List.length_map, hRl]
  refine awpL_for (i := 122) (L := 121) os.length (fun j st => st = { env := TrS s n h os j, σ := [.cells ((su5 s).map .t)] }) ?_ ⟨_, Sub.gc [0] [122, 121, 120, 3, 7, 8, 11, 12, 13, 15, 17, 18, 19] rfl rfl, ?_⟩ ?_ ?_
  · rintro k st rfl; exact ⟨rfl, rfl⟩
  · exact St.gc_mk (by simp only [List.map_cons, List.map_nil, lk, Nat.reduceEqDiff, reduceIte, q3, q7, q8, q10, q11, q12, q13, q15, q17, q18, q19]; rfl) rfl rfl rfl
  · rintro j st hj rfl
    have hwj : IntKind.i64.wrap ((j : Int) + 1) = ((j + 1 : Nat) : Int) := by rw [wrap_id (by omega) (by omega)]; omega
    rw [awpL_seq, awpL_block]
    refine awpL_chop 5 (c1 := ?b1) (c2 := ?b2) (InMid s n h os j) ?hc2 ?_ ?_
    case hc2 => simp only [chop]; rfl
    · have hrg := rowsL_get s h os (n := os.length) hj
      have hfg := floL_get s h os (n := os.length) hj
      have h17 := Rows_ok s hs n h hg j (by omega)
      have hm := log_has (h := h) hr6 ht (j := j + 1) (by omega)
      have hms := log_small (s := s) (h := h) hr6 (j + 1)
      have hc1 := can_of (h := h) hr6 ht hj
      have hc2 := sure_of (h := h) hr6 ht hj
      have bSj := bS j (by omega)
      have bCj := bC j (by omega)
      have e2 : 2 ^ (h.row.toNat + 2) ≤ 2 ^ (s.rows.toNat + 1) := Nat.pow_le_pow_right (by decide) (by have := hho.2.2.2.2.2; omega)
      have hmr := Nat.lt_of_lt_of_le hms e2
      rw [Nat.pow_succ] at hmr
      have e3 : 2 ^ s.rows.toNat ≤ 64 := Nat.pow_le_pow_right (n := 2) (j := 6) (by decide) (by omega)
      have hq0 : (((logS s h (j + 1) / 2 : Nat) : Int)).fdiv (2 ^ (min s.rows.toNat 64)) = 0 := by
        rw [shr_nat (by omega), Nat.shiftRight_eq_div_pow, Nat.div_eq_of_lt (by omega)]; rfl
      clear hms e2
      have hrn : (s.rows < 0) = False := by simp; omega
      have hjn : ((j : Int) < 0) = False := by simp
      have hCj : Flo s h (os.take j) (os.getD j (0, 0)) = true → (bits .and .i64 (((canM s h : Nat) : Int).fdiv (2 ^ (min j 64))) 1 == 0) = false := fun e => by
        rw [bit_eq0 (by omega), bCj, hc1 e]; rfl
      have hSj : Flo s h (os.take j) (os.getD j (0, 0)) = false → (bits .and .i64 (((sureM s h : Nat) : Int).fdiv (2 ^ (min j 64))) 1 == 1) = false := fun e => by
        rw [bit_eq (by omega), bSj, hc2 e]
      have hbs' : (∃ F : Nat, specBefore s h = ((F : Int), 0) ∧ F < 8 ∧ bits .and .i64 ((canM s h : Nat) : Int) ((2 ^ F - 1 : Nat) : Int) = 0 ∧ (bits .and .i64 (((canM s h : Nat) : Int).fdiv (2 ^ (min F 64))) 1 == 0) = false ∧ (Flo s h (os.take j) (os.getD j (0, 0)) = true → decide ((j : Int) < (F : Int)) = false)) ∨ (specBefore s h = (0, 4) ∧ Flo s h (os.take j) (os.getD j (0, 0)) = false) := by
        rcases hbs with ⟨F, e, hF, _, hFb, hFz, hall⟩ | ⟨e, h0⟩
        · left
          have hpF : 2 ^ F ≤ 128 := Nat.pow_le_pow_right (n := 2) (j := 7) (by decide) (by omega)
          refine ⟨F, e, by omega, ?_, ?_, fun hf => ?_⟩
          · rw [bits_and (by omega) (by omega), hFz]; rfl
          · rw [bit_eq0 (by omega), hFb]; rfl
          · have := hall j (hc1 hf) (by omega)
            exact decide_eq_false (by omega)
        · right
          refine ⟨e, ?_⟩
          cases hf : Flo s h (os.take j) (os.getD j (0, 0))
          · rfl
          · have := hc1 hf
            rw [h0, Nat.zero_testBit] at bCj
            rw [← bCj] at this
            cases this
      clear hbs hc1 hc2 bSj bCj bS bC
      have hm2 : logS s h (j + 1) / 2 < 9223372036854775808 := by omega
      have hin : ∀ env, lk env 3 = .ptr 0 0 → lk env 7 = .t (vi n) → lk env 8 = .t (tI (os.map (·.1))) → lk env 11 = .t (tB (floL s h os os.length)) → lk env 12 = .t (vi (sureM s h : Nat)) → lk env 13 = .t (vi (canM s h : Nat)) → lk env 15 = .t (vi (lostN (logS s h s.water.length))) → lk env 17 = .t (vi (specBefore s h).1) → lk env 18 = .t (vi (specBefore s h).2) → lk env 19 = .t (vb (decide ((runP s h (os.take (j + 1)) : Int) - 1 < 0))) → lk env 20 = .t (vi j) → lk env 120 = .t (tI (rowsL s h os os.length)) → lk env 121 = .t (vi os.length) → lk env 122 = .t (vi j) → InMid s n h os j { env := env, σ := [.cells ((su5 s).map .t)] } :=
        fun env e1 e2 e3 e4 e5 e6 e7 e8 e9 e10 e11 e12 e13 e14 => ⟨e1, e2, e3, e4, e5, e6, e7, e8, e9, e10, e11, e12, e13, e14, rfl, rfl, rfl⟩
      unfold TrS
      simp only [rowE, su5] at h17
      generalize logS s h (j + 1) = m at *
      generalize runP s h (os.take (j + 1)) = kk at *
      generalize Flo s h (os.take j) (os.getD j (0, 0)) = c at *
      generalize rowsL s h os os.length = RL at *
      generalize floL s h os os.length = FL at *
      generalize sureM s h = SM at *
      generalize canM s h = CM at *
      generalize specBefore s h = SB at *
      generalize lostN (logS s h s.water.length) = LN at *
      simp only [su5, go_sem, Nat.reduceEqDiff, Nat.reduceAdd, Nat.reduceSub, Nat.reduceMul, Nat.reduceLT, Nat.reduceLeDiff, Nat.reduceMod, Nat.reduceDiv, Int.reduceToNat, Int.reduceLT, Int.reduceLE, Bool.not_true, Bool.not_false, reduceIte, Int.reduceEq, Int.reduceBEq, Int.reduceBNe, Int.reduceGT, Int.reduceGE, Int.reduceNeg, Int.reduceAdd, Int.reduceSub, Nat.reduceBEq, decide_true, decide_false, undef, beq_self_eq_true, bne_self_eq_false, Bool.and_true, Bool.true_and, Bool.and_false, Bool.false_and, Bool.or_true, Bool.true_or, Bool.or_false, Bool.false_or, undef, List.length_map, List.getElem?_map, hrg, hfg, Option.map_some]
      refine ACallL.quiet1 h17 rfl rfl rfl ?_
      cases c
      · have hSj := hSj rfl
        rcases hbs' with ⟨F, rfl, hF, hFz, hFq, _⟩ | ⟨rfl, _⟩
        · skip
          have sl := shl_one (i := F) (by omega)
          have hpF : 2 ^ F ≤ 128 := Nat.pow_le_pow_right (n := 2) (j := 7) (by decide) (by omega)
          have hpp := Nat.two_pow_pos F
          have wF : IntKind.i64.wrap (((2 ^ F : Nat) : Int) - 1) = ((2 ^ F - 1 : Nat) : Int) := by rw [wrap_id (by omega) (by omega)]; omega
          have hF0 : ((F : Int) < 0) = False := by simp
          cases kk with
          | zero =>
            have h00 : m.testBit 0 = true := hm
            simp only [go_sem, Nat.reduceEqDiff, Nat.reduceAdd, Nat.reduceSub, Nat.reduceMul, Nat.reduceLT, Nat.reduceLeDiff, Nat.reduceMod, Nat.reduceDiv, Int.reduceToNat, Int.reduceLT, Int.reduceLE, Bool.not_true, Bool.not_false, reduceIte, Int.reduceEq, Int.reduceBEq, Int.reduceBNe, Int.reduceGT, Int.reduceGE, Int.reduceNeg, Int.reduceAdd, Int.reduceSub, Nat.reduceBEq, decide_true, decide_false, undef, beq_self_eq_true, bne_self_eq_false, Bool.and_true, Bool.true_and, Bool.and_false, Bool.false_and, Bool.or_true, Bool.true_or, Bool.or_false, Bool.false_or, undef, hq0, hrn, h00, hjn, List.length_map, List.getElem?_map, hrg, hfg, Option.map_some, hSj, sl, wF, hF0, hFz, hFq]
            exact hin _ rfl rfl rfl rfl rfl rfl rfl rfl rfl rfl rfl rfl rfl rfl
          | succ r =>
            have hb1 : (bits .and .i64 (((m / 2 : Nat) : Int).fdiv (2 ^ (min r 64))) 1 == 0) = false := by
              rw [bit_eq0 hm2, Nat.testBit_div_two, hm]; rfl
            have hkr : ((r + 1 : Nat) : Int) - 1 = (r : Int) := by omega
            have hr0 : ((r : Int) < 0) = False := by simp
            have hr1 : decide ((r : Int) ≥ 0) = true := by simp
            have hr2 : decide ((r : Int) < 0) = false := by simp
            rw [hkr] at hrg hin ⊢
            simp only [go_sem, Nat.reduceEqDiff, Nat.reduceAdd, Nat.reduceSub, Nat.reduceMul, Nat.reduceLT, Nat.reduceLeDiff, Nat.reduceMod, Nat.reduceDiv, Int.reduceToNat, Int.reduceLT, Int.reduceLE, Bool.not_true, Bool.not_false, reduceIte, Int.reduceEq, Int.reduceBEq, Int.reduceBNe, Int.reduceGT, Int.reduceGE, Int.reduceNeg, Int.reduceAdd, Int.reduceSub, Nat.reduceBEq, decide_true, decide_false, undef, beq_self_eq_true, bne_self_eq_false, Bool.and_true, Bool.true_and, Bool.and_false, Bool.false_and, Bool.or_true, Bool.true_or, Bool.or_false, Bool.false_or, undef, hq0, hrn, hjn, hr0, hr1, hr2, hb1, List.length_map, List.getElem?_map, hrg, hfg, Option.map_some, hSj, sl, wF, hF0, hFz, hFq]
            exact hin _ rfl rfl rfl rfl rfl rfl rfl rfl rfl rfl rfl rfl rfl rfl
        · skip
          cases kk with
          | zero =>
            have h00 : m.testBit 0 = true := hm
            simp only [go_sem, Nat.reduceEqDiff, Nat.reduceAdd, Nat.reduceSub, Nat.reduceMul, Nat.reduceLT, Nat.reduceLeDiff, Nat.reduceMod, Nat.reduceDiv, Int.reduceToNat, Int.reduceLT, Int.reduceLE, Bool.not_true, Bool.not_false, reduceIte, Int.reduceEq, Int.reduceBEq, Int.reduceBNe, Int.reduceGT, Int.reduceGE, Int.reduceNeg, Int.reduceAdd, Int.reduceSub, Nat.reduceBEq, decide_true, decide_false, undef, beq_self_eq_true, bne_self_eq_false, Bool.and_true, Bool.true_and, Bool.and_false, Bool.false_and, Bool.or_true, Bool.true_or, Bool.or_false, Bool.false_or, undef, hq0, hrn, h00, hjn, List.length_map, List.getElem?_map, hrg, hfg, Option.map_some, hSj]
            exact hin _ rfl rfl rfl rfl rfl rfl rfl rfl rfl rfl rfl rfl rfl rfl
          | succ r =>
            have hb1 : (bits .and .i64 (((m / 2 : Nat) : Int).fdiv (2 ^ (min r 64))) 1 == 0) = false := by
              rw [bit_eq0 hm2, Nat.testBit_div_two, hm]; rfl
            have hkr : ((r + 1 : Nat) : Int) - 1 = (r : Int) := by omega
            have hr0 : ((r : Int) < 0) = False := by simp
            have hr1 : decide ((r : Int) ≥ 0) = true := by simp
            have hr2 : decide ((r : Int) < 0) = false := by simp
            rw [hkr] at hrg hin ⊢
            simp only [go_sem, Nat.reduceEqDiff, Nat.reduceAdd, Nat.reduceSub, Nat.reduceMul, Nat.reduceLT, Nat.reduceLeDiff, Nat.reduceMod, Nat.reduceDiv, Int.reduceToNat, Int.reduceLT, Int.reduceLE, Bool.not_true, Bool.not_false, reduceIte, Int.reduceEq, Int.reduceBEq, Int.reduceBNe, Int.reduceGT, Int.reduceGE, Int.reduceNeg, Int.reduceAdd, Int.reduceSub, Nat.reduceBEq, decide_true, decide_false, undef, beq_self_eq_true, bne_self_eq_false, Bool.and_true, Bool.true_and, Bool.and_false, Bool.false_and, Bool.or_true, Bool.true_or, Bool.or_false, Bool.false_or, undef, hq0, hrn, hjn, hr0, hr1, hr2, hb1, List.length_map, List.getElem?_map, hrg, hfg, Option.map_some, hSj]
            exact hin _ rfl rfl rfl rfl rfl rfl rfl rfl rfl rfl rfl rfl rfl rfl
      · have hCj := hCj rfl
        rcases hbs' with ⟨F, rfl, hF, hFz, hFq, hFj⟩ | ⟨_, hx⟩
        · have hFj := hFj rfl
          have sl := shl_one (i := F) (by omega)
          have hpF : 2 ^ F ≤ 128 := Nat.pow_le_pow_right (n := 2) (j := 7) (by decide) (by omega)
          have hpp := Nat.two_pow_pos F
          have wF : IntKind.i64.wrap (((2 ^ F : Nat) : Int) - 1) = ((2 ^ F - 1 : Nat) : Int) := by rw [wrap_id (by omega) (by omega)]; omega
          have hF0 : ((F : Int) < 0) = False := by simp
          cases kk with
          | zero =>
            have h00 : m.testBit 0 = true := hm
            simp only [go_sem, Nat.reduceEqDiff, Nat.reduceAdd, Nat.reduceSub, Nat.reduceMul, Nat.reduceLT, Nat.reduceLeDiff, Nat.reduceMod, Nat.reduceDiv, Int.reduceToNat, Int.reduceLT, Int.reduceLE, Bool.not_true, Bool.not_false, reduceIte, Int.reduceEq, Int.reduceBEq, Int.reduceBNe, Int.reduceGT, Int.reduceGE, Int.reduceNeg, Int.reduceAdd, Int.reduceSub, Nat.reduceBEq, decide_true, decide_false, undef, beq_self_eq_true, bne_self_eq_false, Bool.and_true, Bool.true_and, Bool.and_false, Bool.false_and, Bool.or_true, Bool.true_or, Bool.or_false, Bool.false_or, undef, hq0, hrn, h00, hjn, List.length_map, List.getElem?_map, hrg, hfg, Option.map_some, hCj, hFj, sl, wF, hF0, hFz, hFq]
            exact hin _ rfl rfl rfl rfl rfl rfl rfl rfl rfl rfl rfl rfl rfl rfl
          | succ r =>
            have hb1 : (bits .and .i64 (((m / 2 : Nat) : Int).fdiv (2 ^ (min r 64))) 1 == 0) = false := by
              rw [bit_eq0 hm2, Nat.testBit_div_two, hm]; rfl
            have hkr : ((r + 1 : Nat) : Int) - 1 = (r : Int) := by omega
            have hr0 : ((r : Int) < 0) = False := by simp
            have hr1 : decide ((r : Int) ≥ 0) = true := by simp
            have hr2 : decide ((r : Int) < 0) = false := by simp
            rw [hkr] at hrg hin ⊢
            simp only [go_sem, Nat.reduceEqDiff, Nat.reduceAdd, Nat.reduceSub, Nat.reduceMul, Nat.reduceLT, Nat.reduceLeDiff, Nat.reduceMod, Nat.reduceDiv, Int.reduceToNat, Int.reduceLT, Int.reduceLE, Bool.not_true, Bool.not_false, reduceIte, Int.reduceEq, Int.reduceBEq, Int.reduceBNe, Int.reduceGT, Int.reduceGE, Int.reduceNeg, Int.reduceAdd, Int.reduceSub, Nat.reduceBEq, decide_true, decide_false, undef, beq_self_eq_true, bne_self_eq_false, Bool.and_true, Bool.true_and, Bool.and_false, Bool.false_and, Bool.or_true, Bool.true_or, Bool.or_false, Bool.false_or, undef, hq0, hrn, hjn, hr0, hr1, hr2, hb1, List.length_map, List.getElem?_map, hrg, hfg, Option.map_some, hCj, hFj, sl, wF, hF0, hFz, hFq]
            exact hin _ rfl rfl rfl rfl rfl rfl rfl rfl rfl rfl rfl rfl rfl rfl
        · cases hx
    · rintro ⟨env, σ, df, k⟩ ⟨q3, q7, q8, q11, q12, q13, q15, q17, q18, q19, q20, q120, q121, q122, hσ, hdf, hk⟩
      simp only at q3 q7 q8 q11 q12 q13 q15 q17 q18 q19 q20 q120 q121 q122 hσ hdf hk
      subst hσ hdf hk
      have ho : os[j]? = some os[j] := List.getElem?_eq_getElem hj
      have hx : s.water[j]? = some s.water[j] := List.getElem?_eq_getElem (by omega)
      have hjv : j < s.waves.length := by have := hs.nv; omega
      have hy : s.waves[j]? = some s.waves[j] := List.getElem?_eq_getElem hjv
      have hbx := hs.water _ (List.mem_of_getElem? hx)
      have hby := hs.waves _ (List.mem_of_getElem? hy)
      have hmem := ht j _ ho
      rw [hoursL_eq hx hy] at hmem
      have hob := (hoursP_bnd hbx hby hmem).1
      have hdep := fun (r : Nat) (hr : (r : Int) < s.rows) => Depth_ok s hs j _ hx r hr
      generalize s.water[j] = x at *
      generalize os[j] = o at *
      have hbx' : 0 ≤ x.1 ∧ x.1 ≤ x.2 ∧ x.2 ≤ 30 ∧ x.2 - x.1 ≤ 3 := hbx
      simp only [su5, go_sem, Nat.reduceEqDiff, Nat.reduceAdd, Nat.reduceSub, Nat.reduceMul, Nat.reduceLT, Nat.reduceLeDiff, Nat.reduceMod, Nat.reduceDiv, Int.reduceToNat, Int.reduceLT, Int.reduceLE, Bool.not_true, Bool.not_false, reduceIte, Int.reduceEq, Int.reduceBEq, Int.reduceBNe, Int.reduceGT, Int.reduceGE, Int.reduceNeg, Int.reduceAdd, Int.reduceSub, Nat.reduceBEq, decide_true, decide_false, undef, beq_self_eq_true, bne_self_eq_false, Bool.and_true, Bool.true_and, Bool.and_false, Bool.false_and, Bool.or_true, Bool.true_or, Bool.or_false, Bool.false_or, undef, q3, q7, q8, q11, q12, q13, q15, q17, q18, q19, q20, q120, q121, q122]
      refine awpL_loopK s.rows.toNat (fun r st => st = { env := InS s n h os j r, σ := [.cells ((su5 s).map .t)] }) ⟨_, Sub.gc [0] [216, 215, 20, 122, 121, 120, 3, 7, 8, 11, 12, 13, 15, 17, 18, 19] rfl rfl, ?_⟩ ?_
      · exact St.gc_mk (by simp only [List.map_cons, List.map_nil, lk, Nat.reduceEqDiff, reduceIte, q3, q7, q8, q11, q12, q13, q15, q17, q18, q19, q20, q120, q121, q122]; rfl) rfl rfl rfl
      · rintro r st hr rfl
        unfold InS
        simp only [su5, go_sem, Nat.reduceEqDiff, Nat.reduceAdd, Nat.reduceSub, Nat.reduceMul, Nat.reduceLT, Nat.reduceLeDiff, Nat.reduceMod, Nat.reduceDiv, Int.reduceToNat, Int.reduceLT, Int.reduceLE, Bool.not_true, Bool.not_false, reduceIte, Int.reduceEq, Int.reduceBEq, Int.reduceBNe, Int.reduceGT, Int.reduceGE, Int.reduceNeg, Int.reduceAdd, Int.reduceSub, Nat.reduceBEq, decide_true, decide_false, undef, beq_self_eq_true, bne_self_eq_false, Bool.and_true, Bool.true_and, Bool.and_false, Bool.false_and, Bool.or_true, Bool.true_or, Bool.or_false, Bool.false_or, undef]
        cases g : decide ((r : Int) < s.rows)
        · simp only [go_sem, Nat.reduceEqDiff, Nat.reduceAdd, Nat.reduceSub, Nat.reduceMul, Nat.reduceLT, Nat.reduceLeDiff, Nat.reduceMod, Nat.reduceDiv, Int.reduceToNat, Int.reduceLT, Int.reduceLE, Bool.not_true, Bool.not_false, reduceIte, Int.reduceEq, Int.reduceBEq, Int.reduceBNe, Int.reduceGT, Int.reduceGE, Int.reduceNeg, Int.reduceAdd, Int.reduceSub, Nat.reduceBEq, decide_true, decide_false, undef, beq_self_eq_true, bne_self_eq_false, Bool.and_true, Bool.true_and, Bool.and_false, Bool.false_and, Bool.or_true, Bool.true_or, Bool.or_false, Bool.false_or, undef, g, hwj]
          exact ⟨_, Sub.gc [0] [122, 121, 120, 3, 7, 8, 11, 12, 13, 15, 17, 18, 19] rfl rfl, rfl⟩
        have hrl : (r : Int) < s.rows := of_decide_eq_true g
        have h15 := hdep r hrl
        have hwr : IntKind.i64.wrap ((r : Int) + 1) = ((r + 1 : Nat) : Int) := by rw [wrap_id (by omega) (by omega)]; omega
        have hm := mul_bnd hst (b := (r : Int)) (by omega)
        have w1 : IntKind.i64.wrap (s.step * (r : Int)) = s.step * (r : Int) := wrap_id (by omega) (by omega)
        have w2 : IntKind.i64.wrap (o.1 - s.step * (r : Int)) = o.1 - s.step * (r : Int) := wrap_id (by omega) (by omega)
        have hd : max 0 (o.1 - s.step * (r : Int)) = deepI s.step o.1 r := rfl
        have m1 := deep_mono (step := s.step) (r := (r : Int)) hob.1
        have m2 := deep_mono (step := s.step) (r := (r : Int)) hob.2
        have g1 : decide (deepI s.step o.1 r < deepI s.step x.1 r) = false := decide_eq_false (by omega)
        have g2 : decide (deepI s.step o.1 r > deepI s.step x.2 r) = false := decide_eq_false (by omega)
        simp only [spanE, tSp, su5] at h15
        simp only [go_sem, Nat.reduceEqDiff, Nat.reduceAdd, Nat.reduceSub, Nat.reduceMul, Nat.reduceLT, Nat.reduceLeDiff, Nat.reduceMod, Nat.reduceDiv, Int.reduceToNat, Int.reduceLT, Int.reduceLE, Bool.not_true, Bool.not_false, reduceIte, Int.reduceEq, Int.reduceBEq, Int.reduceBNe, Int.reduceGT, Int.reduceGE, Int.reduceNeg, Int.reduceAdd, Int.reduceSub, Nat.reduceBEq, decide_true, decide_false, undef, beq_self_eq_true, bne_self_eq_false, Bool.and_true, Bool.true_and, Bool.and_false, Bool.false_and, Bool.or_true, Bool.true_or, Bool.or_false, Bool.false_or, undef, g, List.length_map, List.getElem?_map, ho, Option.map_some]
        refine ACallL.quiet1 h15 rfl rfl rfl ?_
        simp only [go_sem, Nat.reduceEqDiff, Nat.reduceAdd, Nat.reduceSub, Nat.reduceMul, Nat.reduceLT, Nat.reduceLeDiff, Nat.reduceMod, Nat.reduceDiv, Int.reduceToNat, Int.reduceLT, Int.reduceLE, Bool.not_true, Bool.not_false, reduceIte, Int.reduceEq, Int.reduceBEq, Int.reduceBNe, Int.reduceGT, Int.reduceGE, Int.reduceNeg, Int.reduceAdd, Int.reduceSub, Nat.reduceBEq, decide_true, decide_false, undef, beq_self_eq_true, bne_self_eq_false, Bool.and_true, Bool.true_and, Bool.and_false, Bool.false_and, Bool.or_true, Bool.true_or, Bool.or_false, Bool.false_or, undef, List.length_map, List.getElem?_map, ho, Option.map_some, w1, w2, hd, g1, g2, hwr]
        exact ⟨by omega, _, Sub.gc [0] [216, 215, 20, 122, 121, 120, 3, 7, 8, 11, 12, 13, 15, 17, 18, 19] rfl rfl, rfl⟩
  · rintro st rfl
    have hlf := lost_fits (h := h) hr6 ht hol
    have hgo : goneB s h os os.length = true → runP s h os = 0 := fun e => by
      cases hn : os.length with
      | zero => rw [hn] at e; cases e
      | succ m =>
        rw [hn] at e
        have e : decide ((runP s h (os.take (m + 1)) : Int) - 1 < 0) = true := e
        rw [List.take_of_length_le (by omega)] at e
        have := of_decide_eq_true e
        omega
    have hgn : goneB s h os os.length = false → runP s h os ≠ 0 := fun e => by
      cases hn : os.length with
      | zero =>
        rw [List.eq_nil_of_length_eq_zero hn]
        show h.row.toNat + 1 ≠ 0
        omega
      | succ m =>
        rw [hn] at e
        have e : decide ((runP s h (os.take (m + 1)) : Int) - 1 < 0) = false := e
        rw [List.take_of_length_le (by omega)] at e
        have := of_decide_eq_false e
        omega
    unfold TrS
    generalize lostN (logS s h s.water.length) = LN at *
    cases hG : goneB s h os os.length
    · have : ¬ LN = 2 := fun e => hgn hG (hlf.1 e)
      have n1 : (LN != 2) = true := by rw [bne_iff_ne]; exact this
      cases n2 : (LN != 0)
      all_goals
        simp only [go_sem, Nat.reduceEqDiff, Nat.reduceAdd, Nat.reduceSub, Nat.reduceMul, Nat.reduceLT, Nat.reduceLeDiff, Nat.reduceMod, Nat.reduceDiv, Int.reduceToNat, Int.reduceLT, Int.reduceLE, Bool.not_true, Bool.not_false, reduceIte, Int.reduceEq, Int.reduceBEq, Int.reduceBNe, Int.reduceGT, Int.reduceGE, Int.reduceNeg, Int.reduceAdd, Int.reduceSub, Nat.reduceBEq, decide_true, decide_false, undef, beq_self_eq_true, bne_self_eq_false, Bool.and_true, Bool.true_and, Bool.and_false, Bool.false_and, Bool.or_true, Bool.true_or, Bool.or_false, Bool.false_or, undef, n1, n2, hG]
        refine ACallL.quiet1 awake_ok rfl rfl rfl ?_
        simp only [go_sem, Nat.reduceEqDiff, Nat.reduceAdd, Nat.reduceSub, Nat.reduceMul, Nat.reduceLT, Nat.reduceLeDiff, Nat.reduceMod, Nat.reduceDiv, Int.reduceToNat, Int.reduceLT, Int.reduceLE, Bool.not_true, Bool.not_false, reduceIte, Int.reduceEq, Int.reduceBEq, Int.reduceBNe, Int.reduceGT, Int.reduceGE, Int.reduceNeg, Int.reduceAdd, Int.reduceSub, Nat.reduceBEq, decide_true, decide_false, undef, beq_self_eq_true, bne_self_eq_false, Bool.and_true, Bool.true_and, Bool.and_false, Bool.false_and, Bool.or_true, Bool.true_or, Bool.or_false, Bool.false_or, undef]
        exact finL_ret [] ⟨rfl, rfl, rfl, rfl, _, rfl, res_mk rfl⟩
    · have : ¬ LN = 0 := fun e => hlf.2 e (hgo hG)
      have n2 : (LN != 0) = true := by rw [bne_iff_ne]; exact this
      cases n1 : (LN != 2)
      all_goals
        simp only [go_sem, Nat.reduceEqDiff, Nat.reduceAdd, Nat.reduceSub, Nat.reduceMul, Nat.reduceLT, Nat.reduceLeDiff, Nat.reduceMod, Nat.reduceDiv, Int.reduceToNat, Int.reduceLT, Int.reduceLE, Bool.not_true, Bool.not_false, reduceIte, Int.reduceEq, Int.reduceBEq, Int.reduceBNe, Int.reduceGT, Int.reduceGE, Int.reduceNeg, Int.reduceAdd, Int.reduceSub, Nat.reduceBEq, decide_true, decide_false, undef, beq_self_eq_true, bne_self_eq_false, Bool.and_true, Bool.true_and, Bool.and_false, Bool.false_and, Bool.or_true, Bool.true_or, Bool.or_false, Bool.false_or, undef, n1, n2, hG]
        refine ACallL.quiet1 awake_ok rfl rfl rfl ?_
        simp only [go_sem, Nat.reduceEqDiff, Nat.reduceAdd, Nat.reduceSub, Nat.reduceMul, Nat.reduceLT, Nat.reduceLeDiff, Nat.reduceMod, Nat.reduceDiv, Int.reduceToNat, Int.reduceLT, Int.reduceLE, Bool.not_true, Bool.not_false, reduceIte, Int.reduceEq, Int.reduceBEq, Int.reduceBNe, Int.reduceGT, Int.reduceGE, Int.reduceNeg, Int.reduceAdd, Int.reduceSub, Nat.reduceBEq, decide_true, decide_false, undef, beq_self_eq_true, bne_self_eq_false, Bool.and_true, Bool.true_and, Bool.and_false, Bool.false_and, Bool.or_true, Bool.true_or, Bool.or_false, Bool.false_or, undef]
        exact finL_ret [] ⟨rfl, rfl, rfl, rfl, _, rfl, res_mk rfl⟩
end Go.Proofs.YtmahocdmkpigjaaDoor
