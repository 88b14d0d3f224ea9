/- Proved here: laws that the statements need (WaC34, WaTC). No conditions but those that each law states. -/
import Derived.Test.YtnmmhkkmejbckaaDoorFL
import Derived.Test.YtnmmhkkmejbckaaDoorFP
import Derived.Test.YtnmmhkkmejbckaaDoorProg
import Derived.Test.YtnmmhkkmejbckaaDoorEW

set_option linter.unusedSimpArgs false
set_option linter.unusedVariables false

/- Compiled code of functions, printed by program; each is checked to be the program's. No conditions. -/
namespace Go.Proofs.YtnmmhkkmejbckaaDoor
open Go Go.Ab
/-- dipworks/dipworkslaw07.WatchTrue -/
def c4 : AC :=
 .seq (.reg [⟨(some 2), none, .mov (.lit (.bool false))⟩])
 (.seq (.reg [⟨(some 31), none, .mov (.tmp 0)⟩,
 ⟨(some 32), none, .call (.fn 22) [(.tmp 31)]⟩,
 ⟨(some 3), none, .mov (.tmp 32)⟩])
 (.seq (.reg [⟨(some 34), none, .mov (.tmp 3)⟩,
 ⟨(some 35), none, .call (.fn 23) [(.tmp 34)]⟩,
 ⟨(some 33), none, .mov (.tmp 35)⟩,
 ⟨(some 36), none, .ext (.tmp 33) 0⟩,
 ⟨(some 37), none, .ext (.tmp 33) 1⟩,
 ⟨(some 4), none, .alloc [(.slice none 0 0), (.slice none 0 0)]⟩,
 ⟨none, none, .store 2 (.tmp 4) (.tmp 36)⟩,
 ⟨(some 5), none, .mov (.tmp 37)⟩])
 (.seq (.reg [⟨(some 39), none, .load true 2 (.tmp 4)⟩,
 ⟨(some 40), none, .call (.fn 15) [(.tmp 39)]⟩,
 ⟨(some 38), none, .mov (.tmp 40)⟩,
 ⟨(some 41), none, .ext (.tmp 38) 0⟩,
 ⟨(some 42), none, .ext (.tmp 38) 1⟩,
 ⟨(some 6), none, .mov (.tmp 41)⟩,
 ⟨(some 7), none, .mov (.tmp 42)⟩])
 (.seq (.reg [⟨(some 44), none, .load true 2 (.tmp 4)⟩,
 ⟨(some 45), none, .call (.fn 19) [(.tmp 44)]⟩,
 ⟨(some 43), none, .mov (.tmp 45)⟩,
 ⟨(some 46), none, .ext (.tmp 43) 0⟩,
 ⟨(some 47), none, .ext (.tmp 43) 1⟩,
 ⟨(some 8), none, .mov (.tmp 46)⟩,
 ⟨(some 9), none, .mov (.tmp 47)⟩])
 (.seq (.reg [⟨(some 49), none, .load true 2 (.tmp 4)⟩,
 ⟨(some 50), none, .call (.fn 18) [(.tmp 49)]⟩,
 ⟨(some 48), none, .mov (.tmp 50)⟩,
 ⟨(some 51), none, .ext (.tmp 48) 0⟩,
 ⟨(some 52), none, .ext (.tmp 48) 1⟩,
 ⟨(some 10), none, .mov (.tmp 51)⟩,
 ⟨(some 11), none, .mov (.tmp 52)⟩])
 (.seq (.seq (.reg [⟨(some 53), none, .mov (.tmp 7)⟩,
 ⟨(some 54), none, .bin .neq (.tmp 53) (.lit (.int .i64 0))⟩,
 ⟨(some 55), none, .mov (.tmp 54)⟩,
 ⟨(some 56), (some (55, false)), .mov (.tmp 6)⟩,
 ⟨(some 57), (some (55, false)), .bin .lss (.tmp 56) (.lit (.int .i64 1))⟩,
 ⟨(some 58), none, .pick (.tmp 55) (.lit (.bool true)) (.tmp 57)⟩,
 ⟨(some 59), none, .mov (.tmp 58)⟩,
 ⟨(some 60), (some (59, false)), .mov (.tmp 9)⟩,
 ⟨(some 61), (some (59, false)), .bin .neq (.tmp 60) (.lit (.int .i64 4))⟩,
 ⟨(some 62), none, .pick (.tmp 59) (.lit (.bool true)) (.tmp 61)⟩,
 ⟨(some 63), none, .mov (.tmp 62)⟩,
 ⟨(some 64), (some (63, false)), .mov (.tmp 11)⟩,
 ⟨(some 65), (some (63, false)), .bin .neq (.tmp 64) (.lit (.int .i64 0))⟩,
 ⟨(some 66), none, .pick (.tmp 63) (.lit (.bool true)) (.tmp 65)⟩,
 ⟨(some 67), none, .mov (.tmp 66)⟩,
 ⟨(some 68), (some (67, false)), .mov (.tmp 10)⟩,
 ⟨(some 69), (some (67, false)), .len (.tmp 68)⟩,
 ⟨(some 70), (some (67, false)), .mov (.tmp 5)⟩,
 ⟨(some 71), (some (67, false)), .len (.tmp 70)⟩,
 ⟨(some 72), (some (67, false)), .bin .neq (.tmp 69) (.tmp 71)⟩,
 ⟨(some 73), none, .pick (.tmp 67) (.lit (.bool true)) (.tmp 72)⟩])
 (.cond (.tmp 73) (.seq (.reg [⟨(some 2), none, .mov (.lit (.bool false))⟩])
 (.ret))
 (.skip)))
 (.seq (.reg [⟨(some 12), none, .mov (.lit (.int .i64 0))⟩])
 (.seq (.seq (.reg [⟨(some 74), none, .mov (.tmp 5)⟩,
 ⟨(some 75), none, .len (.tmp 74)⟩,
 ⟨(some 76), none, .mov (.lit (.int .i64 0))⟩])
 (.block 0 (.loop (.seq (.reg [⟨(some 77), none, .bin .lss (.tmp 76) (.tmp 75)⟩])
 (.seq (.cond (.tmp 77) (.skip)
 (.exit 0))
 (.seq (.block 1 (.seq (.reg [⟨(some 78), none, .mov (.tmp 76)⟩,
 ⟨(some 79), none, .iaddr 2 (.tmp 74) (.tmp 76)⟩,
 ⟨(some 80), none, .load true 2 (.tmp 79)⟩,
 ⟨(some 14), none, .alloc [(.int .i64 0), (.int .i64 0)]⟩,
 ⟨(some 13), none, .mov (.tmp 78)⟩,
 ⟨none, none, .store 2 (.tmp 14) (.tmp 80)⟩])
 (.seq (.reg [⟨(some 81), none, .mov (.tmp 12)⟩,
 ⟨(some 82), none, .faddr 0 (.tmp 14)⟩,
 ⟨(some 83), none, .load false 1 (.tmp 82)⟩,
 ⟨(some 84), none, .bin .shl (.lit (.int .i64 1)) (.tmp 83)⟩,
 ⟨(some 85), none, .bin .or (.tmp 81) (.tmp 84)⟩,
 ⟨(some 12), none, .mov (.tmp 85)⟩])
 (.seq (.reg [⟨(some 87), none, .load true 2 (.tmp 4)⟩,
 ⟨(some 88), none, .mov (.tmp 13)⟩,
 ⟨(some 89), none, .call (.fn 13) [(.tmp 87), (.tmp 88)]⟩,
 ⟨(some 86), none, .mov (.tmp 89)⟩,
 ⟨(some 90), none, .ext (.tmp 86) 0⟩,
 ⟨(some 91), none, .ext (.tmp 86) 1⟩,
 ⟨(some 15), none, .mov (.tmp 90)⟩,
 ⟨(some 16), none, .mov (.tmp 91)⟩])
 (.seq (.reg [⟨(some 93), none, .load true 2 (.tmp 4)⟩,
 ⟨(some 94), none, .mov (.tmp 13)⟩,
 ⟨(some 95), none, .call (.fn 16) [(.tmp 93), (.tmp 94)]⟩,
 ⟨(some 92), none, .mov (.tmp 95)⟩,
 ⟨(some 96), none, .ext (.tmp 92) 0⟩,
 ⟨(some 97), none, .ext (.tmp 92) 1⟩,
 ⟨(some 17), none, .mov (.tmp 96)⟩,
 ⟨(some 18), none, .mov (.tmp 97)⟩])
 (.seq (.reg [⟨(some 99), none, .load true 2 (.tmp 4)⟩,
 ⟨(some 100), none, .faddr 0 (.tmp 14)⟩,
 ⟨(some 101), none, .load false 1 (.tmp 100)⟩,
 ⟨(some 102), none, .call (.fn 17) [(.tmp 99), (.tmp 101)]⟩,
 ⟨(some 98), none, .mov (.tmp 102)⟩,
 ⟨(some 103), none, .ext (.tmp 98) 0⟩,
 ⟨(some 104), none, .ext (.tmp 98) 1⟩,
 ⟨(some 105), none, .ext (.tmp 98) 2⟩,
 ⟨(some 19), none, .mov (.tmp 103)⟩,
 ⟨(some 20), none, .mov (.tmp 104)⟩,
 ⟨(some 21), none, .mov (.tmp 105)⟩])
 (.seq (.seq (.draw (.step ⟨(some 106), none, .mov (.tmp 16)⟩ (
 .step ⟨(some 107), none, .bin .neq (.tmp 106) (.lit (.int .i64 0))⟩ (
 .step ⟨(some 108), none, .mov (.tmp 107)⟩ (
 .step ⟨(some 109), (some (108, false)), .mov (.tmp 18)⟩ (
 .step ⟨(some 110), (some (108, false)), .bin .neq (.tmp 109) (.lit (.int .i64 0))⟩ (
 .step ⟨(some 111), none, .pick (.tmp 108) (.lit (.bool true)) (.tmp 110)⟩ (
 .step ⟨(some 112), none, .mov (.tmp 111)⟩ (
 .step ⟨(some 113), (some (112, false)), .mov (.tmp 21)⟩ (
 .step ⟨(some 114), (some (112, false)), .bin .neq (.tmp 113) (.lit (.int .i64 0))⟩ (
 .step ⟨(some 115), none, .pick (.tmp 112) (.lit (.bool true)) (.tmp 114)⟩ (
 .step ⟨(some 116), none, .mov (.tmp 115)⟩ (
 .step ⟨(some 117), (some (116, false)), .mov (.tmp 15)⟩ (
 .step ⟨(some 118), (some (116, false)), .faddr 0 (.tmp 14)⟩ (
 .step ⟨(some 119), (some (116, false)), .load false 1 (.tmp 118)⟩ (
 .step ⟨(some 120), (some (116, false)), .bin .shr (.tmp 117) (.tmp 119)⟩ (
 .step ⟨(some 121), (some (116, false)), .bin .and (.tmp 120) (.lit (.int .i64 1))⟩ (
 .step ⟨(some 122), (some (116, false)), .bin .eql (.tmp 121) (.lit (.int .i64 0))⟩ (
 .step ⟨(some 123), none, .pick (.tmp 116) (.lit (.bool true)) (.tmp 122)⟩ (
 .step ⟨(some 124), none, .mov (.tmp 123)⟩ (
 .step ⟨(some 125), (some (124, false)), .mov (.tmp 17)⟩ (
 .step ⟨(some 126), (some (124, false)), .faddr 0 (.tmp 14)⟩ (
 .step ⟨(some 127), (some (124, false)), .load false 1 (.tmp 126)⟩ (
 .step ⟨(some 128), (some (124, false)), .bin .shr (.tmp 125) (.tmp 127)⟩ (
 .step ⟨(some 129), (some (124, false)), .bin .and (.tmp 128) (.lit (.int .i64 1))⟩ (
 .step ⟨(some 130), (some (124, false)), .bin .eql (.tmp 129) (.lit (.int .i64 0))⟩ (
 .step ⟨(some 131), none, .pick (.tmp 124) (.lit (.bool true)) (.tmp 130)⟩ (
 .step ⟨(some 132), none, .mov (.tmp 131)⟩ (
 .step ⟨(some 133), (some (132, false)), .mov (.tmp 17)⟩ (
 .step ⟨(some 134), (some (132, false)), .mov (.tmp 15)⟩ (
 .step ⟨(some 135), (some (132, false)), .bin .andNot (.tmp 133) (.tmp 134)⟩ (
 .step ⟨(some 136), (some (132, false)), .bin .neq (.tmp 135) (.lit (.int .i64 0))⟩ (
 .step ⟨(some 137), none, .pick (.tmp 132) (.lit (.bool true)) (.tmp 136)⟩ (
 .step ⟨(some 138), none, .mov (.tmp 137)⟩ (
 .step ⟨(some 139), (some (138, false)), .mov (.tmp 19)⟩ (
 .step ⟨(some 140), (some (138, false)), .mov (.tmp 13)⟩ (
 .step ⟨(some 141), (some (138, false)), .bin .shr (.tmp 139) (.tmp 140)⟩ (
 .step ⟨(some 142), (some (138, false)), .bin .and (.tmp 141) (.lit (.int .i64 1))⟩ (
 .step ⟨(some 143), (some (138, false)), .bin .eql (.tmp 142) (.lit (.int .i64 0))⟩ (
 .step ⟨(some 144), none, .pick (.tmp 138) (.lit (.bool true)) (.tmp 143)⟩ (
 .step ⟨(some 145), none, .mov (.tmp 144)⟩ (
 .step ⟨(some 146), (some (145, false)), .mov (.tmp 10)⟩ (
 .step ⟨(some 147), (some (145, false)), .mov (.tmp 13)⟩ (
 .step ⟨(some 148), (some (145, false)), .iaddr 1 (.tmp 146) (.tmp 147)⟩ (
 .step ⟨(some 149), (some (145, false)), .load false 1 (.tmp 148)⟩ (
 .step ⟨(some 150), (some (145, false)), .bin .neq (.tmp 149) (.lit (.int .i64 (-1)))⟩ (
 .step ⟨(some 151), (some (145, false)), .mov (.tmp 150)⟩ (
 .step ⟨(some 152), (some (151, true)), .mov (.tmp 10)⟩ (
 .step ⟨(some 153), (some (151, true)), .mov (.tmp 13)⟩ (
 .step ⟨(some 154), (some (151, true)), .iaddr 1 (.tmp 152) (.tmp 153)⟩ (
 .step ⟨(some 155), (some (151, true)), .load false 1 (.tmp 154)⟩ (
 .step ⟨(some 156), (some (151, true)), .faddr 0 (.tmp 14)⟩ (
 .step ⟨(some 157), (some (151, true)), .load false 1 (.tmp 156)⟩ (
 .step ⟨(some 158), (some (151, true)), .bin .neq (.tmp 155) (.tmp 157)⟩ (
 .step ⟨(some 159), (some (145, false)), .pick (.tmp 151) (.tmp 158) (.lit (.bool false))⟩ (
 .step ⟨(some 160), none, .pick (.tmp 145) (.lit (.bool true)) (.tmp 159)⟩ (
 .step ⟨(some 161), none, .mov (.tmp 160)⟩ (
 .step ⟨(some 162), (some (161, false)), .mov (.tmp 10)⟩ (
 .step ⟨(some 163), (some (161, false)), .mov (.tmp 13)⟩ (
 .step ⟨(some 164), (some (161, false)), .iaddr 1 (.tmp 162) (.tmp 163)⟩ (
 .step ⟨(some 165), (some (161, false)), .load false 1 (.tmp 164)⟩ (
 .step ⟨(some 166), (some (161, false)), .bin .geq (.tmp 165) (.lit (.int .i64 0))⟩ (
 .step ⟨(some 167), (some (161, false)), .mov (.tmp 17)⟩ (
 .step ⟨(some 168), (some (161, false)), .mxmn true (.lit (.int .i64 0)) [(.tmp 167)]⟩ (
 .ev ⟨(some 169), (some (161, false)), .call (.fn 24) [(.tmp 168)]⟩ [⟨(some 165), (some (161, false)), .load false 1 (.tmp 164)⟩, ⟨(some 164), (some (161, false)), .iaddr 1 (.tmp 162) (.tmp 163)⟩, ⟨(some 157), (some (151, true)), .load false 1 (.tmp 156)⟩, ⟨(some 156), (some (151, true)), .faddr 0 (.tmp 14)⟩, ⟨(some 155), (some (151, true)), .load false 1 (.tmp 154)⟩, ⟨(some 154), (some (151, true)), .iaddr 1 (.tmp 152) (.tmp 153)⟩, ⟨(some 149), (some (145, false)), .load false 1 (.tmp 148)⟩, ⟨(some 148), (some (145, false)), .iaddr 1 (.tmp 146) (.tmp 147)⟩, ⟨(some 127), (some (124, false)), .load false 1 (.tmp 126)⟩, ⟨(some 126), (some (124, false)), .faddr 0 (.tmp 14)⟩, ⟨(some 119), (some (116, false)), .load false 1 (.tmp 118)⟩, ⟨(some 118), (some (116, false)), .faddr 0 (.tmp 14)⟩] (
 .step ⟨(some 170), (some (161, false)), .bin .eql (.tmp 169) (.lit (.int .i64 1))⟩ (
 .step ⟨(some 171), (some (161, false)), .eqb true (.tmp 166) (.tmp 170)⟩ (
 .step ⟨(some 172), none, .pick (.tmp 161) (.lit (.bool true)) (.tmp 171)⟩ (
 .done))))
 (.stop))))))))))))))))))))))))))))))))))))))))))))))))))))))))))))))))))
 (.cond (.tmp 172) (.seq (.reg [⟨(some 2), none, .mov (.lit (.bool false))⟩])
 (.ret))
 (.skip)))
 (.seq (.reg [⟨(some 174), none, .load true 2 (.tmp 4)⟩,
 ⟨(some 175), none, .mov (.tmp 13)⟩,
 ⟨(some 176), none, .faddr 0 (.tmp 14)⟩,
 ⟨(some 177), none, .load false 1 (.tmp 176)⟩,
 ⟨(some 178), none, .call (.fn 14) [(.tmp 174), (.tmp 175), (.tmp 177)]⟩,
 ⟨(some 173), none, .mov (.tmp 178)⟩,
 ⟨(some 179), none, .ext (.tmp 173) 0⟩,
 ⟨(some 180), none, .ext (.tmp 173) 1⟩,
 ⟨(some 22), none, .mov (.tmp 179)⟩,
 ⟨(some 23), none, .mov (.tmp 180)⟩])
 (.seq (.seq (.reg [⟨(some 181), none, .faddr 1 (.tmp 4)⟩,
 ⟨(some 182), none, .load false 1 (.tmp 181)⟩,
 ⟨(some 183), none, .mov (.tmp 13)⟩,
 ⟨(some 184), none, .iaddr 5 (.tmp 182) (.tmp 183)⟩,
 ⟨(some 185), none, .faddr 4 (.tmp 184)⟩,
 ⟨(some 186), none, .load false 1 (.tmp 185)⟩,
 ⟨(some 187), none, .un .not (.tmp 186)⟩])
 (.cond (.tmp 187) (.seq (.seq (.reg [⟨(some 188), none, .mov (.tmp 23)⟩,
 ⟨(some 189), none, .bin .neq (.tmp 188) (.lit (.int .i64 11))⟩,
 ⟨(some 190), none, .mov (.tmp 189)⟩,
 ⟨(some 191), (some (190, false)), .mov (.tmp 22)⟩,
 ⟨(some 192), (some (190, false)), .len (.tmp 191)⟩,
 ⟨(some 193), (some (190, false)), .bin .neq (.tmp 192) (.lit (.int .i64 0))⟩,
 ⟨(some 194), none, .pick (.tmp 190) (.lit (.bool true)) (.tmp 193)⟩])
 (.cond (.tmp 194) (.seq (.reg [⟨(some 2), none, .mov (.lit (.bool false))⟩])
 (.ret))
 (.skip)))
 (.exit 1))
 (.skip)))
 (.seq (.reg [⟨(some 24), none, .mov (.lit (.bool false))⟩])
 (.seq (.seq (.reg [⟨(some 195), none, .mov (.tmp 22)⟩,
 ⟨(some 196), none, .len (.tmp 195)⟩,
 ⟨(some 197), none, .mov (.lit (.int .i64 0))⟩])
 (.block 2 (.loop (.seq (.reg [⟨(some 198), none, .bin .lss (.tmp 197) (.tmp 196)⟩])
 (.seq (.cond (.tmp 198) (.skip)
 (.exit 2))
 (.seq (.block 3 (.seq (.reg [⟨(some 199), none, .iaddr 2 (.tmp 195) (.tmp 197)⟩,
 ⟨(some 200), none, .load true 2 (.tmp 199)⟩,
 ⟨(some 26), none, .alloc [(.int .i64 0), (.int .i64 0)]⟩,
 ⟨none, none, .store 2 (.tmp 26) (.tmp 200)⟩])
 (.reg [⟨(some 201), none, .mov (.tmp 24)⟩,
 ⟨(some 202), none, .mov (.tmp 201)⟩,
 ⟨(some 203), (some (202, false)), .faddr 1 (.tmp 14)⟩,
 ⟨(some 204), (some (202, false)), .load false 1 (.tmp 203)⟩,
 ⟨(some 205), (some (202, false)), .load true 2 (.tmp 26)⟩,
 ⟨(some 206), (some (202, false)), .call (.fn 25) [(.tmp 204), (.tmp 205)]⟩,
 ⟨(some 207), none, .pick (.tmp 202) (.lit (.bool true)) (.tmp 206)⟩,
 ⟨(some 24), none, .mov (.tmp 207)⟩])))
 (.reg [⟨(some 208), none, .bin .add (.tmp 197) (.lit (.int .i64 1))⟩,
 ⟨(some 197), none, .mov (.tmp 208)⟩])))))))
 (.seq (.reg [⟨(some 209), none, .mov (.tmp 23)⟩,
 ⟨(some 210), none, .bin .neq (.tmp 209) (.lit (.int .i64 0))⟩,
 ⟨(some 211), none, .mov (.tmp 210)⟩,
 ⟨(some 212), (some (211, false)), .mov (.tmp 24)⟩,
 ⟨(some 213), (some (211, false)), .un .not (.tmp 212)⟩,
 ⟨(some 214), none, .pick (.tmp 211) (.lit (.bool true)) (.tmp 213)⟩])
 (.cond (.tmp 214) (.seq (.reg [⟨(some 2), none, .mov (.lit (.bool false))⟩])
 (.ret))
 (.skip))))))))))))))
 (.reg [⟨(some 215), none, .bin .add (.tmp 76) (.lit (.int .i64 1))⟩,
 ⟨(some 76), none, .mov (.tmp 215)⟩])))))))
 (.seq (.seq (.reg [⟨(some 216), none, .faddr 0 (.tmp 4)⟩,
 ⟨(some 217), none, .load false 1 (.tmp 216)⟩,
 ⟨(some 218), none, .len (.tmp 217)⟩,
 ⟨(some 219), none, .mov (.lit (.int .i64 0))⟩])
 (.block 4 (.loop (.seq (.reg [⟨(some 220), none, .bin .lss (.tmp 219) (.tmp 218)⟩])
 (.seq (.cond (.tmp 220) (.skip)
 (.exit 4))
 (.seq (.block 5 (.seq (.reg [⟨(some 221), none, .mov (.tmp 219)⟩,
 ⟨(some 27), none, .mov (.tmp 221)⟩])
 (.seq (.reg [⟨(some 223), none, .load true 2 (.tmp 4)⟩,
 ⟨(some 224), none, .mov (.tmp 27)⟩,
 ⟨(some 225), none, .call (.fn 17) [(.tmp 223), (.tmp 224)]⟩,
 ⟨(some 222), none, .mov (.tmp 225)⟩,
 ⟨(some 226), none, .ext (.tmp 222) 0⟩,
 ⟨(some 227), none, .ext (.tmp 222) 1⟩,
 ⟨(some 228), none, .ext (.tmp 222) 2⟩,
 ⟨(some 28), none, .mov (.tmp 226)⟩,
 ⟨(some 29), none, .mov (.tmp 227)⟩,
 ⟨(some 30), none, .mov (.tmp 228)⟩])
 (.seq (.reg [⟨(some 229), none, .mov (.tmp 30)⟩,
 ⟨(some 230), none, .bin .neq (.tmp 229) (.lit (.int .i64 0))⟩,
 ⟨(some 231), none, .mov (.tmp 230)⟩,
 ⟨(some 232), (some (231, false)), .mov (.tmp 28)⟩,
 ⟨(some 233), (some (231, false)), .mov (.tmp 5)⟩,
 ⟨(some 234), (some (231, false)), .len (.tmp 233)⟩,
 ⟨(some 235), (some (231, false)), .bin .shr (.tmp 232) (.tmp 234)⟩,
 ⟨(some 236), (some (231, false)), .bin .neq (.tmp 235) (.lit (.int .i64 0))⟩,
 ⟨(some 237), none, .pick (.tmp 231) (.lit (.bool true)) (.tmp 236)⟩,
 ⟨(some 238), none, .mov (.tmp 237)⟩,
 ⟨(some 239), (some (238, false)), .mov (.tmp 12)⟩,
 ⟨(some 240), (some (238, false)), .mov (.tmp 27)⟩,
 ⟨(some 241), (some (238, false)), .bin .shr (.tmp 239) (.tmp 240)⟩,
 ⟨(some 242), (some (238, false)), .bin .and (.tmp 241) (.lit (.int .i64 1))⟩,
 ⟨(some 243), (some (238, false)), .bin .eql (.tmp 242) (.lit (.int .i64 0))⟩,
 ⟨(some 244), (some (238, false)), .mov (.tmp 243)⟩,
 ⟨(some 245), (some (244, true)), .mov (.tmp 29)⟩,
 ⟨(some 246), (some (244, true)), .un .not (.tmp 245)⟩,
 ⟨(some 247), (some (238, false)), .pick (.tmp 244) (.tmp 246) (.lit (.bool false))⟩,
 ⟨(some 248), none, .pick (.tmp 238) (.lit (.bool true)) (.tmp 247)⟩,
 ⟨(some 249), none, .mov (.tmp 248)⟩,
 ⟨(some 250), (some (249, false)), .mov (.tmp 28)⟩,
 ⟨(some 251), (some (249, false)), .bin .eql (.tmp 250) (.lit (.int .i64 0))⟩,
 ⟨(some 252), (some (249, false)), .mov (.tmp 251)⟩,
 ⟨(some 253), (some (252, true)), .mov (.tmp 29)⟩,
 ⟨(some 254), (some (252, true)), .un .not (.tmp 253)⟩,
 ⟨(some 255), (some (249, false)), .pick (.tmp 252) (.tmp 254) (.lit (.bool false))⟩,
 ⟨(some 256), none, .pick (.tmp 249) (.lit (.bool true)) (.tmp 255)⟩])
 (.cond (.tmp 256) (.seq (.reg [⟨(some 2), none, .mov (.lit (.bool false))⟩])
 (.ret))
 (.skip))))))
 (.reg [⟨(some 257), none, .bin .add (.tmp 219) (.lit (.int .i64 1))⟩,
 ⟨(some 219), none, .mov (.tmp 257)⟩])))))))
 (.seq (.reg [⟨(some 258), none, .call (.fn 20) []⟩,
 ⟨(some 2), none, .mov (.tmp 258)⟩])
 (.ret)))))))))))
theorem k4 : FnC Tryd.prog 4 259 [] [] [.tmp 2] c4 1 := ⟨Tryd.f4, _, Tryd.func4, rfl, by decide, rfl, by decide, by kernel_rfl, by kernel_rfl⟩
end Go.Proofs.YtnmmhkkmejbckaaDoor

/- WatchTrue. -/
namespace Go.Proofs.YtnmmhkkmejbckaaDoor
open Go Go.Ab

theorem specStopped_of {w : Wa} (hok : w.ok = true) {i k : Nat} {f : Fi} {o : Ow} (hi : w.fs[i]? = some f) (hk : w.os[k]? = some o) : specStopped w i k = if f.stopped then (if minsL o f = [] then ([], 4) else (spansL (minsL o f), 0)) else ([], 11) := by
  have h1 := (List.getElem?_eq_some_iff.1 hi).1
  have h2 := (List.getElem?_eq_some_iff.1 hk).1
  unfold specStopped
  rw [hok, if_pos rfl, isF_at h1, isO_at h2, Bool.true_and, if_pos rfl, Int.toNat_natCast, Int.toNat_natCast, hi, hk]
def lostN (l : List (Nat × Int)) : Nat := l.foldl (fun a x => a ||| 2 ^ x.1) 0
theorem lostN_snoc (l : List (Nat × Int)) (x : Nat × Int) : lostN (l ++ [x]) = lostN l ||| 2 ^ x.1 := by unfold lostN; rw [List.foldl_append]; rfl
theorem lostN_bit (l : List (Nat × Int)) (o : Nat) : (lostN l).testBit o = true ↔ ∃ x ∈ l, x.1 = o := by
  suffices h : ∀ n, (lostN (l.take n)).testBit o = true ↔ ∃ x ∈ l.take n, x.1 = o by
    have := h l.length
    rwa [List.take_length] at this
  intro n
  induction n with
  | zero => simp [lostN]
  | succ n ih =>
    rw [List.take_add_one]
    cases hx : l[n]? with
    | none => simpa using ih
    | some y =>
      rw [Option.toList_some, lostN_snoc, Nat.testBit_or, Bool.or_eq_true, ih, Nat.testBit_two_pow, decide_eq_true_eq]
      constructor
      · rintro (⟨x, h1, h2⟩ | h)
        · exact ⟨x, List.mem_append.2 (.inl h1), h2⟩
        · exact ⟨y, by simp, h⟩
      · rintro ⟨x, h1, h2⟩
        rcases List.mem_append.1 h1 with h1 | h1
        · exact .inl ⟨x, h1, h2⟩
        · rw [List.mem_singleton] at h1
          exact .inr (h1 ▸ h2)
theorem lostN_lt {l : List (Nat × Int)} (h : ∀ x ∈ l, x.1 < 5) : lostN l < 64 := by
  refine Nat.lt_pow_two_of_testBit (n := 6) _ fun i hi => ?_
  cases hb : (lostN l).testBit i
  · rfl
  · obtain ⟨x, h1, h2⟩ := (lostN_bit l i).1 hb
    have := h x h1
    omega
/-- What is told of a find that is truly one's. -/
theorem true_at {w : Wa} {l : List (Nat × Int)} {J : Nat} (hM : Mad w.os w.fs l J) {j i : Nat} {m : Int} (hx : l[j]? = some (i, m)) : ∃ (f : Fi) (o : Ow) (F C a : Nat) (n : Bool), w.fs[j]? = some f ∧ w.os[i]? = some o ∧ m ∈ minsL o f ∧ specFits w j = ((F : Int), 0) ∧ specCan w j = ((C : Int), 0) ∧ specWhere w i = ((a : Int), n, 0) ∧ F < 64 ∧ C < 64 ∧ a < 16 ∧ F.testBit i = true ∧ C.testBit i = true ∧ ndiff C F = 0 ∧ a.testBit j = true ∧ (sureL w)[j]? = some (soleI C) ∧ (size C = 1 → soleI C = (i : Int)) := by
  have hw := hM.OK
  have hok := (Wa.ok_iff w).2 hw
  obtain ⟨f, o, h1, h2, h3⟩ := hM.at_ j i m hx
  have hl := hM.len
  have h4 := hM.n4
  have h5 := hM.n5
  have hj := (List.getElem?_eq_some_iff.1 h1).1
  have hi := (List.getElem?_eq_some_iff.1 h2).1
  have ht : l.map (·.1) ∈ truths w.fits := hM.truth
  have hz : waysN w.fits ≠ 0 := ways_pos.2 ⟨_, ht⟩
  have hs := whose_small w.fits hz
  obtain ⟨-, fs2⟩ := fits_small hw
  have hFm : fitN w.os f ∈ w.fits := by unfold Wa.fits; exact List.mem_map.2 ⟨f, List.mem_of_getElem? h1, rfl⟩
  have hFg : w.fits.getD j 0 = fitN w.os f := by
    unfold Wa.fits
    rw [List.getD_eq_getElem?_getD, List.getElem?_map, h1]; rfl
  have hCb : ((whoseL w.fits).getD j 0).testBit i = true := by
    rw [whose_bit _ (by omega)]
    exact ⟨_, ht, by rw [List.getElem?_map, hx]; rfl⟩
  have hFb : (fitN w.os f).testBit i = true := by
    have := (truths_mem.1 ht).2.2 j i (by rw [List.getElem?_map, hx]; rfl)
    rw [hFg] at this
    exact this.1
  refine ⟨f, o, fitN w.os f, (whoseL w.fits).getD j 0, maskW (whereP w i) 4, decide (0 < waysN (lessL w.fits i)), h1, h2, h3, specFits_in hok h1, ?_, ?_, fs2 _ hFm, ?_, ?_, hFb, hCb, ?_, ?_, ?_, ?_⟩
  · rw [specCan_at hok hj, if_neg hz]
  · rw [specWhere_at hok hi, if_neg hz]
  · rw [List.getD_eq_getElem?_getD, List.getElem?_eq_getElem (by rw [hs.1]; omega)]
    exact hs.2 _ (List.getElem_mem _)
  · exact maskW_lt (whereP w i) 4
  · apply Nat.eq_of_testBit_eq
    intro b
    rw [ndiff_bit, Nat.zero_testBit]
    cases hb : ((whoseL w.fits).getD j 0).testBit b
    · rfl
    · rw [whose_bit _ (by omega)] at hb
      obtain ⟨t, k1, k2⟩ := hb
      have := ((truths_mem.1 k1).2.2 j b k2).1
      rw [hFg] at this
      rw [this]; rfl
  · rw [maskW_bit, decide_eq_true (show j < 4 by omega), Bool.true_and]
    exact hCb
  · unfold sureL
    rw [List.getElem?_map, List.getElem?_range hj]; rfl
  · intro h1
    have hC : (whoseL w.fits).getD j 0 < 64 := by
      rw [List.getD_eq_getElem?_getD, List.getElem?_eq_getElem (by rw [hs.1]; omega)]
      exact hs.2 _ (List.getElem_mem _)
    obtain ⟨e, -⟩ := size_one _ hC h1
    unfold soleI
    rw [if_pos h1]
    rw [e, Nat.testBit_two_pow, decide_eq_true_eq] at hCb
    omega
/-- What is told of an owner. -/
theorem owner_at {w : Wa} {l : List (Nat × Int)} {J : Nat} (hM : Mad w.os w.fs l J) {o : Nat} (ho : o < w.os.length) : ∃ (a : Nat) (n : Bool), specWhere w o = ((a : Int), n, 0) ∧ a < 2 ^ l.length ∧ ((lostN l).testBit o = false → n = true) ∧ (a = 0 → n = true) := by
  have hw := hM.OK
  have hok := (Wa.ok_iff w).2 hw
  have hl := hM.len
  have h4 := hM.n4
  have ht : l.map (·.1) ∈ truths w.fits := hM.truth
  have hz : waysN w.fits ≠ 0 := ways_pos.2 ⟨_, ht⟩
  have hlf : w.fits.length = w.fs.length := by unfold Wa.fits; simp
  have key : (∀ x ∈ l, x.1 ≠ o) → waysN (lessL w.fits o) ≠ 0 := fun hne => by
    refine ways_pos.2 ⟨l.map (·.1), truths_mem.2 ⟨?_, (truths_mem.1 ht).2.1, fun p i hp => ?_⟩⟩
    · unfold lessL
      rw [List.length_map, List.length_map, hl, hlf]
    · have hb := (truths_mem.1 ht).2.2 p i hp
      refine ⟨?_, hb.2⟩
      have hio : i ≠ o := by
        obtain ⟨x, h1, h2⟩ := List.mem_map.1 (List.mem_of_getElem? hp)
        have := hne x h1
        omega
      unfold lessL
      have hpl : p < w.fits.length := by
        have := (List.getElem?_eq_some_iff.1 hp).1
        rw [List.length_map] at this
        omega
      rw [List.getD_eq_getElem?_getD, List.getElem?_eq_getElem hpl] at hb
      rw [List.getD_eq_getElem?_getD, List.getElem?_map, List.getElem?_eq_getElem hpl]
      show (ndiff _ (2 ^ o)).testBit i = true
      rw [ndiff_bit, Nat.testBit_two_pow, decide_eq_false (Ne.symm hio)]
      have hb1 : (w.fits[p]).testBit i = true := hb.1
      rw [hb1]; rfl
  refine ⟨maskW (whereP w o) 4, decide (0 < waysN (lessL w.fits o)), by rw [specWhere_at hok ho, if_neg hz], ?_, fun hb => ?_, fun ha => ?_⟩
  · refine Nat.lt_pow_two_of_testBit _ fun p hp => ?_
    rw [maskW_bit]
    by_cases h : p < 4
    · rw [decide_eq_true h, Bool.true_and]
      unfold whereP
      cases hb : ((whoseL w.fits).getD p 0).testBit o
      · rfl
      · rw [whose_bit _ h] at hb
        obtain ⟨t, k1, k2⟩ := hb
        have a1 := (truths_mem.1 k1).1
        have := (List.getElem?_eq_some_iff.1 k2).1
        omega
    · rw [decide_eq_false h]; rfl
  · have := key fun x hx e => by
      have h2 := (lostN_bit l o).2 ⟨x, hx, e⟩
      rw [hb] at h2; cases h2
    exact decide_eq_true (by omega)
  · have := key fun x hx e => by
      obtain ⟨p, hp⟩ := List.getElem?_of_mem hx
      have hpl := (List.getElem?_eq_some_iff.1 hp).1
      have h2 : (maskW (whereP w o) 4).testBit p = true := by
        rw [maskW_bit, decide_eq_true (show p < 4 by omega), Bool.true_and]
        unfold whereP
        rw [whose_bit _ (by omega)]
        exact ⟨_, ht, by rw [List.getElem?_map, hp, ← e]; rfl⟩
      rw [ha, Nat.zero_testBit] at h2
      cases h2
    exact decide_eq_true (by omega)

def MT (st : St) : Prop := ∃ (w : Wa) (l : List (Nat × Int)) (a : Nat) (ws : List Nat), Mad w.os w.fs l w.os.length ∧ lk st.env 4 = .ptr 2 0 ∧ lk st.env 5 = .t (.slice 2 (l.map tTr)) ∧ lk st.env 10 = .t (.slice 1 ((sureL w).map vi)) ∧ st.σ = [atC a, byC ws, .cells ((wa2 w).map .t)] ∧ st.df = [] ∧ st.k = 0
set_option maxRecDepth 8000 in
set_option maxHeartbeats 8000000 in
theorem WatchTrue_ok (ws : List Nat) (hw : ∀ w ∈ ws, w < 65536) (hl : ws.length < 9223372036854775808) : ACall Tryd.prog 4 [.t (tBy ws)] [] (res (.ret (.t (vb true)))) := by
  refine ACall.walk k4 ?_
  unfold c4
  refine awpL_chop 7 (c1 := ?a1) (c2 := ?a2) MT ?hc ?_ ?_
  case hc => simp only [chop]; rfl
  · simp only [go_sem, Nat.reduceEqDiff]
    refine ACallL.of (draws_ok ws) ?_
    rintro o σ ⟨rfl, rfl⟩
    simp only [go_sem, Nat.reduceEqDiff]
    refine ACallL.of (made_ok ws hw hl) ?_
    rintro o σ ⟨w, l, hM, rfl, a, rfl⟩
    have hwO := hM.OK
    have hok := (Wa.ok_iff w).2 hwO
    have hn5 := hM.n5
    have hn4 := hM.n4
    have hll := hM.len
    have hL : Lens w := ⟨by omega, by omega⟩
    have ht : l.map (·.1) ∈ truths w.fits := hM.truth
    have hz : waysN w.fits ≠ 0 := ways_pos.2 ⟨_, ht⟩
    have q1 := Count_ok w hL
    have q2 := Clash_ok w hL
    have q3 := Sure_ok w hL
    rw [specCount_at hok] at q1
    have e2 : specClash w = (0, 4) := by unfold specClash; rw [hok, if_pos rfl, if_neg hz]
    rw [e2] at q2
    rw [specSure_at hok, if_neg hz] at q3
    have hsl : (sureL w).length = l.length := by unfold sureL; simp [hll]
    have g1 : decide (((waysN w.fits : Nat) : Int) < 1) = false := decide_eq_false (by omega)
    have hEE : ∀ a : Int, (a != a) = false := fun a => by simp
    have hfin : ∀ (env : List (Nat × E)), lk env 4 = .ptr 2 0 → lk env 5 = .t (.slice 2 (l.map tTr)) → lk env 10 = .t (.slice 1 ((sureL w).map vi)) → MT { env := env, σ := [atC a, byC ws, .cells ((wa2 w).map .t)] } := fun env a1 a2 a3 => ⟨w, l, a, ws, hM, a1, a2, a3, rfl, rfl, rfl⟩
    simp only [oneE, lsE, if_true] at q1 q2 q3
    unfold tWa wa2 at q1 q2 q3 ⊢
    unfold wa2 at hfin
    generalize atC a = A at *
    generalize byC ws = B at *
    generalize sureL w = S at *
    simp only [go_sem, Nat.reduceEqDiff, Nat.reduceAdd, undef]
    refine ACallL.quiet1 q1 rfl rfl rfl ?_
    simp only [go_sem, Nat.reduceEqDiff, Nat.reduceAdd]
    refine ACallL.quiet1 q2 rfl rfl rfl ?_
    simp only [go_sem, Nat.reduceEqDiff, Nat.reduceAdd]
    refine ACallL.fresh1 q3 rfl ?_
    simp only [go_sem, Nat.reduceEqDiff, beq_self_eq_true, bne_self_eq_false, g1, List.length_map, hsl]
    exact hfin _ rfl rfl rfl
  rintro ⟨env, σ, df, dk⟩ ⟨w, l, a, ws', hM, p4, p5, p10, hσ, hdf, hk⟩
  simp only at p4 p5 p10 hσ hdf hk
  subst hσ hdf hk
  have hwO := hM.OK
  have hok := (Wa.ok_iff w).2 hwO
  have hn5 := hM.n5
  have hn4 := hM.n4
  have hll := hM.len
  have hL : Lens w := ⟨by omega, by omega⟩
  have hsl : (sureL w).length = l.length := by unfold sureL; simp [hll]
  have hl5 : ∀ x ∈ l, x.1 < 5 := fun x hx => by have := hM.lt x hx; omega
  have qF := fun i : Nat => Fits_ok w (i : Int) hL
  have qC := fun i : Nat => Can_ok w (i : Int) hL
  have qW := fun i : Nat => Where_ok w (i : Int) hL
  have qS := fun (i k : Nat) => Stopped_ok w (i : Int) (k : Int) hL
  have hTA := fun {j i : Nat} {m : Int} => true_at hM (j := j) (i := i) (m := m)
  have hOA := fun {o : Nat} => owner_at hM (o := o)
  have hSS : sureL w = sureL w := rfl
  generalize sureL w = S at *
  unfold tWa wa2 at qF qC qW qS
  unfold wa2
  unfold atC byC
  simp only [go_sem, Nat.reduceEqDiff, p5, List.length_map]
  refine awpL_loopK l.length (fun j s => s = { env := [(76, .t (vi j)), (4, .ptr 0 0), (5, .t (.slice 2 (l.map tTr))), (10, .t (.slice 1 (S.map vi))), (12, .t (vi (lostN (l.take j) : Nat))), (74, .t (.slice 2 (l.map tTr))), (75, .t (vi l.length))], σ := [.cells [.t (.slice 4 (w.os.map tOw)), .t (.slice 5 (w.fs.map tFi))]] })
    ⟨_, Sub.gc [2] [76, 4, 5, 10, 12, 74, 75] rfl rfl, ?_⟩ ?_
  · exact St.gc_mk (by simp only [List.map_cons, List.map_nil, lk, Nat.reduceEqDiff, reduceIte, p4, p5, p10]; rfl) rfl rfl rfl
  clear p4 p5 p10 env
  rintro j s hj rfl
  have hj0 : ((j : Int) < 0) = False := eq_false (by omega)
  have hwj : IntKind.i64.wrap ((j : Int) + 1) = ((j + 1 : Nat) : Int) := by rw [wrap_id (by omega) (by omega)]; omega
  cases g : decide ((j : Int) < l.length)
  rotate_left
  · have hjl : j < l.length := by have := of_decide_eq_true g; omega
    have hx : l[j]? = some l[j] := List.getElem?_eq_getElem hjl
    have tx : l.take (j + 1) = l.take j ++ [l[j]] := by rw [List.take_add_one, hx]; rfl
    rw [tx, lostN_snoc]
    clear tx
    have hP64 : lostN (l.take j) < 64 := lostN_lt fun x hx => hl5 x (List.mem_of_mem_take hx)
    have hi5 := hl5 _ (List.getElem_mem hjl)
    generalize l[j] = y at *
    obtain ⟨i, m⟩ := y
    simp only at hi5
    obtain ⟨f, o, F, C, aw, n, hf, ho, hm, b1, b2, b3, hF, hC, haw, t1, t2, t3, t4, hs1, hs2⟩ := hTA hx
    have q1 := qF j
    have q2 := qC j
    have q3 := qW i
    have q4 := qS j i
    rw [b1] at q1
    rw [b2] at q2
    rw [b3] at q3
    rw [specStopped_of hok hf ho] at q4
    simp only [oneE] at q1 q2
    simp only [whrE] at q3
    generalize lostN (l.take j) = P at *
    have hp : 2 ^ i ≤ 2 ^ 5 := Nat.pow_le_pow_right (by omega) (by omega)
    have hshl : IntKind.i64.wrap (1 * 2 ^ (min i 64)) = ((2 ^ i : Nat) : Int) := shl_one (by omega)
    have hi0 : ((i : Int) < 0) = False := eq_false (by omega)
    have hor : bits .or .i64 (P : Int) ((2 ^ i : Nat) : Int) = ((P ||| 2 ^ i : Nat) : Int) := bits_or (by omega) (by omega)
    have c1 := bit_eq0 (a := F) (i := i) (by omega)
    have c2 := bit_eq0 (a := C) (i := i) (by omega)
    have c3 : bits .andNot .i64 (C : Int) (F : Int) = ((ndiff C F : Nat) : Int) := bits_andNot (by omega) (by omega)
    have c4 := bit_eq0 (a := aw) (i := j) (by omega)
    rw [t1] at c1
    rw [t2] at c2
    rw [t3] at c3
    rw [t4] at c4
    have hmx : max (0 : Int) (C : Int) = C := by omega
    have hsz := rsize_ok C (by omega)
    have htt : tTr (i, m) = .agg [vi i, vi m] := rfl
    have hiL := (List.getElem?_eq_some_iff.1 ho).1
    simp only [go_sem, Nat.reduceEqDiff, Nat.reduceAdd, Nat.reduceLeDiff, undef, g, List.getElem?_map, hx, Option.map_some, htt, hshl, hi0, IntKind.bits, hor]
    refine ACallL.quiet1 q1 rfl rfl rfl ?_
    simp only [go_sem, Nat.reduceEqDiff, Nat.reduceAdd]
    refine ACallL.quiet1 q2 rfl rfl rfl ?_
    simp only [go_sem, Nat.reduceEqDiff, Nat.reduceAdd, Nat.reduceLeDiff]
    refine ACallL.quiet1 q3 rfl rfl rfl ?_
    have g2 : decide ((-1 : Int) ≥ 0) = false := by decide
    have hst : ∀ s : St, s = { env := [(76, .t (vi (j + 1 : Nat))), (4, .ptr 0 0), (5, .t (.slice 2 (l.map tTr))), (10, .t (.slice 1 (S.map vi))), (12, .t (vi (P ||| 2 ^ i : Nat))), (74, .t (.slice 2 (l.map tTr))), (75, .t (vi l.length))], σ := [.cells [.t (.slice 4 (w.os.map tOw)), .t (.slice 5 (w.fs.map tFi))]] } → s = { env := [(76, .t (vi (j + 1 : Nat))), (4, .ptr 0 0), (5, .t (.slice 2 (l.map tTr))), (10, .t (.slice 1 (S.map vi))), (12, .t (vi (P ||| 2 ^ i : Nat))), (74, .t (.slice 2 (l.map tTr))), (75, .t (vi l.length))], σ := [.cells [.t (.slice 4 (w.os.map tOw)), .t (.slice 5 (w.fs.map tFi))]] } := fun _ h => h
    clear hst
    have hft : tFi f = .agg [vi f.hut, vi f.minute, vi f.lo, vi f.hi, vb f.stopped] := rfl
    have hpw := minsL_pw o f
    have hwO1 := hwO.os o (List.mem_of_getElem? ho)
    have hwf1 := hwO.fs f (List.mem_of_getElem? hf)
    have hsin := spans_in hpw m hm
    have hlen := Nat.le_trans (spansL_len (minsL o f)) (minsL_len o hwO1 f hwf1)
    have hne : minsL o f ≠ [] := List.ne_nil_of_mem hm
    rw [if_neg hne] at q4
    generalize spansL (minsL o f) = X at *
    have hins := fun (p : Int × Int) => inside_ok m p.1 p.2
    by_cases h1 : size C = 1
    · have hsi := hs2 h1
      rw [hsi] at hs1
      rw [h1] at hsz
      have g3 : decide ((i : Int) ≥ 0) = true := decide_eq_true (by omega)
      have g4 : ((i : Int) != (-1)) = true := bne_iff_ne.2 (by omega)
      have g5 : ((i : Int) != (i : Int)) = false := by simp
      simp only [go_sem, Nat.reduceEqDiff, Nat.reduceAdd, Nat.reduceLeDiff, Bool.not_true, Int.reduceNeg, decide_true, beq_self_eq_true, bne_self_eq_false, hi0, hj0, IntKind.bits, c1, c2, c3, c4, List.getElem?_map, hs1, Option.map_some, g4, hmx]
      refine ACallL.quiet1 hsz rfl rfl rfl ?_
      simp only [go_sem, Nat.reduceEqDiff, Nat.reduceAdd, Nat.reduceLeDiff, Bool.not_true, undef, beq_self_eq_true, List.getElem?_map, hs1, Option.map_some]
      cases hst : f.stopped
      · rw [hst] at q4 hft
        simp only [spsE, Bool.false_eq_true, if_false, show ((11 : Int) = 0) = False by decide] at q4
        refine ACallL.fresh1 q4 rfl ?_
        simp only [go_sem, Nat.reduceEqDiff, Nat.reduceAdd, Nat.reduceLeDiff, Bool.not_false, beq_self_eq_true, bne_self_eq_false, List.getElem?_map, hf, Option.map_some, hft, hwj]
        exact ⟨hjl, _, Sub.gc [0] [76, 4, 5, 10, 12, 74, 75] rfl rfl, St.gc_mk rfl rfl rfl rfl⟩
      · rw [hst] at q4 hft
        simp only [spsE, if_true] at q4
        refine ACallL.fresh1 q4 rfl ?_
        have hlX : (tSps X).length = X.length := by unfold tSps; simp
        simp only [go_sem, Nat.reduceEqDiff, Nat.reduceAdd, Bool.not_true, List.getElem?_map, hf, Option.map_some, hft, hlX]
        refine awpL_loopK X.length (fun k s => s = { env := [(197, .t (vi k)), (4, .ptr 0 0), (5, .t (.slice 2 (l.map tTr))), (10, .t (.slice 1 (S.map vi))), (12, .t (vi (P ||| 2 ^ i : Nat))), (14, .ptr 1 0), (23, .t (vi 0)), (24, .t (vb ((X.take k).any fun p => wI m p.1 p.2))), (74, .t (.slice 2 (l.map tTr))), (75, .t (vi l.length)), (76, .t (vi j)), (195, .t (.slice 2 (tSps X))), (196, .t (vi X.length))], σ := [.cells [.t (.slice 4 (w.os.map tOw)), .t (.slice 5 (w.fs.map tFi))], .cells [.t (vi i), .t (vi m)]] })
          ⟨_, Sub.gc [0, 1] [197, 4, 5, 10, 12, 14, 23, 24, 74, 75, 76, 195, 196] rfl rfl, St.gc_mk rfl rfl rfl rfl⟩ ?_
        rintro k s hk rfl
        have hk0 : ((k : Int) < 0) = False := eq_false (by omega)
        cases g6 : decide ((k : Int) < X.length)
        · have hke : k = X.length := by have := of_decide_eq_false g6; omega
          rw [hke] at g6 ⊢
          rw [List.take_length]
          have hany : (X.any fun p => wI m p.1 p.2) = true := by
            obtain ⟨p, h1, h2⟩ := hsin
            exact List.any_eq_true.2 ⟨p, h1, decide_eq_true h2⟩
          rw [hany]
          simp only [go_sem, Nat.reduceEqDiff, Nat.reduceAdd, Nat.reduceLeDiff, Bool.not_true, beq_self_eq_true, bne_self_eq_false, g6, hwj]
          exact ⟨hjl, _, Sub.gc [0] [76, 4, 5, 10, 12, 74, 75] rfl rfl, St.gc_mk rfl rfl rfl rfl⟩
        have hkl : k < X.length := by have := of_decide_eq_true g6; omega
        have hwk : IntKind.i64.wrap ((k : Int) + 1) = ((k + 1 : Nat) : Int) := by rw [wrap_id (by omega) (by omega)]; omega
        have hxk : X[k]? = some X[k] := List.getElem?_eq_getElem hkl
        have txk : X.take (k + 1) = X.take k ++ [X[k]] := by rw [List.take_add_one, hxk]; rfl
        rw [txk, List.any_append]
        clear txk
        generalize X[k] = p at *
        have hp1 := hins p
        unfold tSp at hp1
        have ek : (tSps X)[k]? = some (.agg [vi p.1, vi p.2]) := by unfold tSps; rw [List.getElem?_map, hxk]; rfl
        have hone : ([p].any fun p => wI m p.1 p.2) = wI m p.1 p.2 := by simp
        rw [hone]
        generalize ((X.take k).any fun p => wI m p.1 p.2) = B at *
        cases B
        · simp only [go_sem, Nat.reduceEqDiff, Nat.reduceAdd, undef, beq_self_eq_true, g6, ek]
          refine ACallL.quiet1 hp1 rfl rfl rfl ?_
          simp only [go_sem, Nat.reduceEqDiff, Bool.false_or, hwk]
          exact ⟨hkl, _, Sub.gc [0, 1] [197, 4, 5, 10, 12, 14, 23, 24, 74, 75, 76, 195, 196] rfl rfl, St.gc_mk rfl rfl rfl rfl⟩
        · simp only [go_sem, Nat.reduceEqDiff, Nat.reduceAdd, Bool.not_true, undef, Bool.true_or, g6, ek, hwk]
          exact ⟨hkl, _, Sub.gc [0, 1] [197, 4, 5, 10, 12, 14, 23, 24, 74, 75, 76, 195, 196] rfl rfl, St.gc_mk rfl rfl rfl rfl⟩
    · have hsi : soleI C = -1 := by unfold soleI; rw [if_neg h1]
      rw [hsi] at hs1
      have g3 : (((size C : Nat) : Int) == 1) = false := beq_false_of_ne (by omega)
      simp only [go_sem, Nat.reduceEqDiff, Nat.reduceAdd, Nat.reduceLeDiff, Bool.not_true, Int.reduceGE, Int.reduceNeg, decide_false, undef, beq_self_eq_true, bne_self_eq_false, hi0, hj0, IntKind.bits, c1, c2, c3, c4, List.getElem?_map, hs1, Option.map_some, hmx]
      refine ACallL.quiet1 hsz rfl rfl rfl ?_
      simp only [go_sem, Nat.reduceEqDiff, Nat.reduceAdd, Nat.reduceLeDiff, Bool.not_true, Int.reduceNeg, undef, beq_self_eq_true, List.getElem?_map, hs1, Option.map_some, g3]
      cases hst : f.stopped
      · rw [hst] at q4 hft
        simp only [spsE, Bool.false_eq_true, if_false, show ((11 : Int) = 0) = False by decide] at q4
        refine ACallL.fresh1 q4 rfl ?_
        simp only [go_sem, Nat.reduceEqDiff, Nat.reduceAdd, Nat.reduceLeDiff, Bool.not_false, Int.reduceNeg, beq_self_eq_true, bne_self_eq_false, List.getElem?_map, hf, Option.map_some, hft, hwj]
        exact ⟨hjl, _, Sub.gc [0] [76, 4, 5, 10, 12, 74, 75] rfl rfl, St.gc_mk rfl rfl rfl rfl⟩
      · rw [hst] at q4 hft
        simp only [spsE, if_true] at q4
        refine ACallL.fresh1 q4 rfl ?_
        have hlX : (tSps X).length = X.length := by unfold tSps; simp
        simp only [go_sem, Nat.reduceEqDiff, Nat.reduceAdd, Bool.not_true, Int.reduceNeg, List.getElem?_map, hf, Option.map_some, hft, hlX]
        refine awpL_loopK X.length (fun k s => s = { env := [(197, .t (vi k)), (4, .ptr 0 0), (5, .t (.slice 2 (l.map tTr))), (10, .t (.slice 1 (S.map vi))), (12, .t (vi (P ||| 2 ^ i : Nat))), (14, .ptr 1 0), (23, .t (vi 0)), (24, .t (vb ((X.take k).any fun p => wI m p.1 p.2))), (74, .t (.slice 2 (l.map tTr))), (75, .t (vi l.length)), (76, .t (vi j)), (195, .t (.slice 2 (tSps X))), (196, .t (vi X.length))], σ := [.cells [.t (.slice 4 (w.os.map tOw)), .t (.slice 5 (w.fs.map tFi))], .cells [.t (vi i), .t (vi m)]] })
          ⟨_, Sub.gc [0, 1] [197, 4, 5, 10, 12, 14, 23, 24, 74, 75, 76, 195, 196] rfl rfl, St.gc_mk rfl rfl rfl rfl⟩ ?_
        rintro k s hk rfl
        have hk0 : ((k : Int) < 0) = False := eq_false (by omega)
        cases g6 : decide ((k : Int) < X.length)
        · have hke : k = X.length := by have := of_decide_eq_false g6; omega
          rw [hke] at g6 ⊢
          rw [List.take_length]
          have hany : (X.any fun p => wI m p.1 p.2) = true := by
            obtain ⟨p, h1, h2⟩ := hsin
            exact List.any_eq_true.2 ⟨p, h1, decide_eq_true h2⟩
          rw [hany]
          simp only [go_sem, Nat.reduceEqDiff, Nat.reduceAdd, Nat.reduceLeDiff, Bool.not_true, beq_self_eq_true, bne_self_eq_false, g6, hwj]
          exact ⟨hjl, _, Sub.gc [0] [76, 4, 5, 10, 12, 74, 75] rfl rfl, St.gc_mk rfl rfl rfl rfl⟩
        have hkl : k < X.length := by have := of_decide_eq_true g6; omega
        have hwk : IntKind.i64.wrap ((k : Int) + 1) = ((k + 1 : Nat) : Int) := by rw [wrap_id (by omega) (by omega)]; omega
        have hxk : X[k]? = some X[k] := List.getElem?_eq_getElem hkl
        have txk : X.take (k + 1) = X.take k ++ [X[k]] := by rw [List.take_add_one, hxk]; rfl
        rw [txk, List.any_append]
        clear txk
        generalize X[k] = p at *
        have hp1 := hins p
        unfold tSp at hp1
        have ek : (tSps X)[k]? = some (.agg [vi p.1, vi p.2]) := by unfold tSps; rw [List.getElem?_map, hxk]; rfl
        have hone : ([p].any fun p => wI m p.1 p.2) = wI m p.1 p.2 := by simp
        rw [hone]
        generalize ((X.take k).any fun p => wI m p.1 p.2) = B at *
        cases B
        · simp only [go_sem, Nat.reduceEqDiff, Nat.reduceAdd, undef, beq_self_eq_true, g6, ek]
          refine ACallL.quiet1 hp1 rfl rfl rfl ?_
          simp only [go_sem, Nat.reduceEqDiff, Bool.false_or, hwk]
          exact ⟨hkl, _, Sub.gc [0, 1] [197, 4, 5, 10, 12, 14, 23, 24, 74, 75, 76, 195, 196] rfl rfl, St.gc_mk rfl rfl rfl rfl⟩
        · simp only [go_sem, Nat.reduceEqDiff, Nat.reduceAdd, Bool.not_true, undef, Bool.true_or, g6, ek, hwk]
          exact ⟨hkl, _, Sub.gc [0, 1] [197, 4, 5, 10, 12, 14, 23, 24, 74, 75, 76, 195, 196] rfl rfl, St.gc_mk rfl rfl rfl rfl⟩
  have hje : j = l.length := by have := of_decide_eq_false g; omega
  rw [hje] at g ⊢
  rw [List.take_length]
  clear hj0 hwj hj hje j
  have hP64 := lostN_lt hl5
  simp only [go_sem, Nat.reduceEqDiff, Nat.reduceAdd, Nat.reduceLeDiff, g, List.length_map]
  refine awpL_loopK w.os.length (fun j s => s = { env := [(219, .t (vi j)), (4, .ptr 0 0), (5, .t (.slice 2 (l.map tTr))), (12, .t (vi (lostN l : Nat))), (218, .t (vi w.os.length))], σ := [.cells [.t (.slice 4 (w.os.map tOw)), .t (.slice 5 (w.fs.map tFi))]] })
    ⟨_, Sub.gc [0] [219, 4, 5, 12, 218] rfl rfl, St.gc_mk rfl rfl rfl rfl⟩ ?_
  clear g
  rintro j s hj rfl
  have hj0 : ((j : Int) < 0) = False := eq_false (by omega)
  have hwj : IntKind.i64.wrap ((j : Int) + 1) = ((j + 1 : Nat) : Int) := by rw [wrap_id (by omega) (by omega)]; omega
  cases g : decide ((j : Int) < w.os.length)
  · simp only [go_sem, Nat.reduceEqDiff, g]
    refine ACallL.quiet1 alive_ok rfl rfl rfl ?_
    simp only [go_sem, Nat.reduceEqDiff]
    exact finL_ret [] ⟨rfl, rfl, rfl, rfl, _, rfl, res_mk rfl⟩
  have hjl : j < w.os.length := by have := of_decide_eq_true g; omega
  obtain ⟨aw, n, e1, e2, e3, e4⟩ := hOA hjl
  have q3 := qW j
  rw [e1] at q3
  simp only [whrE] at q3
  have h2p : 2 ^ l.length ≤ 2 ^ 4 := Nat.pow_le_pow_right (by omega) (by omega)
  have c1 : (aw : Int).fdiv (2 ^ (min l.length 64)) = 0 := by
    rw [shr_nat (by omega), Nat.shiftRight_eq_div_pow, Nat.div_eq_of_lt e2]; rfl
  have c2 := bit_eq0 (a := lostN l) (i := j) (by omega)
  have hl0 : ((l.length : Int) < 0) = False := eq_false (by omega)
  generalize lostN l = P at *
  have hfin : j < w.os.length := hjl
  cases hb : P.testBit j
  · obtain rfl := e3 hb
    rw [hb] at c2
    simp only [go_sem, Nat.reduceEqDiff, Nat.reduceAdd, g]
    refine ACallL.quiet1 q3 rfl rfl rfl ?_
    cases ha : ((aw : Int) == 0)
    · simp only [go_sem, Nat.reduceEqDiff, Bool.not_true, Bool.not_false, undef, beq_self_eq_true, bne_self_eq_false, List.length_map, IntKind.bits, c1, c2, hl0, hj0, ha, hwj]
      exact ⟨hjl, _, Sub.gc [0] [219, 4, 5, 12, 218] rfl rfl, St.gc_mk rfl rfl rfl rfl⟩
    · simp only [go_sem, Nat.reduceEqDiff, Bool.not_true, Bool.not_false, beq_self_eq_true, bne_self_eq_false, List.length_map, IntKind.bits, c1, c2, hl0, hj0, ha, hwj]
      exact ⟨hjl, _, Sub.gc [0] [219, 4, 5, 12, 218] rfl rfl, St.gc_mk rfl rfl rfl rfl⟩
  · rw [hb] at c2
    simp only [go_sem, Nat.reduceEqDiff, Nat.reduceAdd, g]
    refine ACallL.quiet1 q3 rfl rfl rfl ?_
    cases ha : ((aw : Int) == 0)
    · simp only [go_sem, Nat.reduceEqDiff, Bool.not_true, undef, beq_self_eq_true, bne_self_eq_false, List.length_map, IntKind.bits, c1, c2, hl0, hj0, ha, hwj]
      exact ⟨hjl, _, Sub.gc [0] [219, 4, 5, 12, 218] rfl rfl, St.gc_mk rfl rfl rfl rfl⟩
    · obtain rfl := e4 (by have := beq_iff_eq.1 ha; omega)
      simp only [go_sem, Nat.reduceEqDiff, Bool.not_true, undef, beq_self_eq_true, bne_self_eq_false, List.length_map, IntKind.bits, c1, c2, hl0, hj0, ha, hwj]
      exact ⟨hjl, _, Sub.gc [0] [219, 4, 5, 12, 218] rfl rfl, St.gc_mk rfl rfl rfl rfl⟩
end Go.Proofs.YtnmmhkkmejbckaaDoor
