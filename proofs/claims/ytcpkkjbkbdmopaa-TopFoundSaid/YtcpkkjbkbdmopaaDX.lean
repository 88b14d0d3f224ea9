/- Proved here: laws that the statements need (RaC33, RaU4). No conditions but those that each law states. -/
import Derived.Test.YtcpkkjbkbdmopaaFL
import Derived.Test.YtcpkkjbkbdmopaaFP
import Derived.Test.YtcpkkjbkbdmopaaProg
import Derived.Test.YtcpkkjbkbdmopaaDW
import Derived.Test.YtcpkkjbkbdmopaaDF

set_option linter.unusedSimpArgs false
set_option linter.unusedVariables false

/- Compiled code of functions, printed by program; each is checked to be the program's. No conditions. -/
namespace Go.Proofs.Ytcpkkjbkbdmopaa
open Go Go.Ab
/-- dipworks/dipworkstop.TopFound -/
def c3 : AC :=
 .seq (.reg [⟨(some 4), none, .box (.tmp 0)⟩,
 ⟨(some 8), none, .mov (.lit (.bool false))⟩])
 (.seq (.seq (.reg [⟨(some 40), none, .faddr 8 (.tmp 4)⟩,
 ⟨(some 41), none, .load false 1 (.tmp 40)⟩,
 ⟨(some 42), none, .len (.tmp 41)⟩,
 ⟨(some 43), none, .faddr 0 (.tmp 4)⟩,
 ⟨(some 44), none, .faddr 0 (.tmp 43)⟩,
 ⟨(some 45), none, .load false 1 (.tmp 44)⟩,
 ⟨(some 46), none, .len (.tmp 45)⟩,
 ⟨(some 47), none, .faddr 0 (.tmp 4)⟩,
 ⟨(some 48), none, .faddr 1 (.tmp 47)⟩,
 ⟨(some 49), none, .load false 1 (.tmp 48)⟩,
 ⟨(some 50), none, .len (.tmp 49)⟩,
 ⟨(some 51), none, .faddr 0 (.tmp 4)⟩,
 ⟨(some 52), none, .faddr 2 (.tmp 51)⟩,
 ⟨(some 53), none, .load false 1 (.tmp 52)⟩,
 ⟨(some 54), none, .len (.tmp 53)⟩,
 ⟨(some 55), none, .mxmn true (.tmp 42) [(.tmp 46), (.tmp 50), (.tmp 54)]⟩,
 ⟨(some 56), none, .bin .gtr (.tmp 55) (.lit (.int .i64 40))⟩,
 ⟨(some 57), none, .mov (.tmp 56)⟩,
 ⟨(some 58), (some (57, false)), .load true 10 (.tmp 4)⟩,
 ⟨(some 59), (some (57, false)), .call (.fn 12) [(.tmp 58)]⟩,
 ⟨(some 60), (some (57, false)), .un .not (.tmp 59)⟩,
 ⟨(some 61), none, .pick (.tmp 57) (.lit (.bool true)) (.tmp 60)⟩,
 ⟨(some 62), none, .mov (.tmp 61)⟩,
 ⟨(some 63), (some (62, false)), .faddr 0 (.tmp 4)⟩,
 ⟨(some 64), (some (62, false)), .faddr 0 (.tmp 63)⟩,
 ⟨(some 65), (some (62, false)), .load false 1 (.tmp 64)⟩,
 ⟨(some 66), (some (62, false)), .len (.tmp 65)⟩,
 ⟨(some 67), (some (62, false)), .bin .eql (.tmp 66) (.lit (.int .i64 0))⟩,
 ⟨(some 68), none, .pick (.tmp 62) (.lit (.bool true)) (.tmp 67)⟩])
 (.cond (.tmp 68) (.seq (.reg [⟨(some 69), none, .call (.fn 13) []⟩,
 ⟨(some 8), none, .mov (.tmp 69)⟩])
 (.ret))
 (.skip)))
 (.seq (.draw (.step ⟨(some 70), none, .mov (.tmp 3)⟩ (
 .step ⟨(some 71), none, .conv .i64 (.tmp 70)⟩ (
 .step ⟨(some 72), none, .faddr 4 (.tmp 4)⟩ (
 .step ⟨(some 73), none, .load false 1 (.tmp 72)⟩ (
 .step ⟨(some 74), none, .bin .add (.tmp 73) (.lit (.int .i64 1))⟩ (
 .step ⟨(some 75), none, .bin .rem (.tmp 71) (.tmp 74)⟩ (
 .step ⟨(some 76), none, .mov (.tmp 1)⟩ (
 .step ⟨(some 77), none, .conv .i64 (.tmp 76)⟩ (
 .step ⟨(some 78), none, .faddr 0 (.tmp 4)⟩ (
 .step ⟨(some 79), none, .faddr 0 (.tmp 78)⟩ (
 .step ⟨(some 80), none, .load false 1 (.tmp 79)⟩ (
 .step ⟨(some 81), none, .len (.tmp 80)⟩ (
 .step ⟨(some 82), none, .bin .rem (.tmp 77) (.tmp 81)⟩ (
 .step ⟨(some 9), none, .mov (.tmp 75)⟩ (
 .step ⟨(some 10), none, .mov (.tmp 82)⟩ (
 .done)))))))))))))))))
 (.seq (.reg [⟨(some 84), none, .load true 10 (.tmp 4)⟩,
 ⟨(some 85), none, .mov (.tmp 9)⟩,
 ⟨(some 86), none, .call (.fn 14) [(.tmp 84), (.tmp 85)]⟩,
 ⟨(some 83), none, .mov (.tmp 86)⟩,
 ⟨(some 87), none, .ext (.tmp 83) 0⟩,
 ⟨(some 88), none, .ext (.tmp 83) 1⟩,
 ⟨(some 11), none, .alloc [(.int .i64 0), (.int .i64 0)]⟩,
 ⟨none, none, .store 2 (.tmp 11) (.tmp 87)⟩,
 ⟨(some 12), none, .mov (.tmp 88)⟩])
 (.seq (.reg [⟨(some 90), none, .faddr 0 (.tmp 4)⟩,
 ⟨(some 91), none, .load true 3 (.tmp 90)⟩,
 ⟨(some 92), none, .call (.fn 15) [(.tmp 91)]⟩,
 ⟨(some 89), none, .mov (.tmp 92)⟩,
 ⟨(some 93), none, .ext (.tmp 89) 0⟩,
 ⟨(some 94), none, .ext (.tmp 89) 1⟩,
 ⟨(some 13), none, .alloc [(.int .i64 0), (.int .i64 0)]⟩,
 ⟨none, none, .store 2 (.tmp 13) (.tmp 93)⟩,
 ⟨(some 14), none, .mov (.tmp 94)⟩])
 (.seq (.reg [⟨(some 96), none, .faddr 0 (.tmp 4)⟩,
 ⟨(some 97), none, .load true 3 (.tmp 96)⟩,
 ⟨(some 98), none, .mov (.tmp 10)⟩,
 ⟨(some 99), none, .call (.fn 16) [(.tmp 97), (.tmp 98)]⟩,
 ⟨(some 95), none, .mov (.tmp 99)⟩,
 ⟨(some 100), none, .ext (.tmp 95) 0⟩,
 ⟨(some 101), none, .ext (.tmp 95) 1⟩,
 ⟨(some 15), none, .alloc [(.int .i64 0), (.int .i64 0)]⟩,
 ⟨none, none, .store 2 (.tmp 15) (.tmp 100)⟩,
 ⟨(some 16), none, .mov (.tmp 101)⟩])
 (.seq (.seq (.reg [⟨(some 102), none, .mov (.tmp 12)⟩,
 ⟨(some 103), none, .mov (.tmp 14)⟩,
 ⟨(some 104), none, .bin .neq (.tmp 102) (.tmp 103)⟩,
 ⟨(some 105), none, .mov (.tmp 104)⟩,
 ⟨(some 106), (some (105, false)), .mov (.tmp 12)⟩,
 ⟨(some 107), (some (105, false)), .mov (.tmp 16)⟩,
 ⟨(some 108), (some (105, false)), .bin .neq (.tmp 106) (.tmp 107)⟩,
 ⟨(some 109), none, .pick (.tmp 105) (.lit (.bool true)) (.tmp 108)⟩])
 (.cond (.tmp 109) (.seq (.reg [⟨(some 8), none, .mov (.lit (.bool false))⟩])
 (.ret))
 (.skip)))
 (.seq (.seq (.reg [⟨(some 110), none, .mov (.tmp 12)⟩,
 ⟨(some 111), none, .bin .neq (.tmp 110) (.lit (.int .i64 0))⟩])
 (.cond (.tmp 111) (.seq (.reg [⟨(some 112), none, .mov (.tmp 12)⟩,
 ⟨(some 113), none, .bin .eql (.tmp 112) (.lit (.int .i64 10))⟩,
 ⟨(some 114), none, .mov (.tmp 113)⟩,
 ⟨(some 115), (some (114, true)), .call (.fn 13) []⟩,
 ⟨(some 116), none, .pick (.tmp 114) (.tmp 115) (.lit (.bool false))⟩,
 ⟨(some 8), none, .mov (.tmp 116)⟩])
 (.ret))
 (.skip)))
 (.seq (.seq (.gcp)
 (.reg [⟨(some 117), none, .mkfn (.func 17) [] [(.tmp 4)]⟩,
 ⟨(some 17), none, .mov (.tmp 117)⟩]))
 (.seq (.draw (.step ⟨(some 118), none, .faddr 0 (.tmp 15)⟩ (
 .step ⟨(some 119), none, .load false 1 (.tmp 118)⟩ (
 .step ⟨(some 120), none, .mov (.tmp 2)⟩ (
 .step ⟨(some 121), none, .conv .i64 (.tmp 120)⟩ (
 .step ⟨(some 122), none, .faddr 1 (.tmp 15)⟩ (
 .step ⟨(some 123), none, .load false 1 (.tmp 122)⟩ (
 .step ⟨(some 124), none, .faddr 0 (.tmp 15)⟩ (
 .step ⟨(some 125), none, .load false 1 (.tmp 124)⟩ (
 .step ⟨(some 126), none, .bin .sub (.tmp 123) (.tmp 125)⟩ (
 .step ⟨(some 127), none, .bin .add (.tmp 126) (.lit (.int .i64 1))⟩ (
 .step ⟨(some 128), none, .bin .rem (.tmp 121) (.tmp 127)⟩ (
 .step ⟨(some 129), none, .bin .add (.tmp 119) (.tmp 128)⟩ (
 .step ⟨(some 18), none, .mov (.tmp 129)⟩ (
 .done)))))))))))))))
 (.seq (.reg [⟨(some 131), none, .mov (.tmp 17)⟩,
 ⟨(some 132), none, .mov (.tmp 10)⟩,
 ⟨(some 133), none, .mov (.tmp 18)⟩,
 ⟨(some 134), none, .call (.tmp 131) [(.tmp 132), (.tmp 133)]⟩,
 ⟨(some 130), none, .mov (.tmp 134)⟩,
 ⟨(some 135), none, .ext (.tmp 130) 0⟩,
 ⟨(some 136), none, .ext (.tmp 130) 1⟩,
 ⟨(some 19), none, .alloc [(.slice none 0 0), (.slice none 0 0), (.slice none 0 0), (.int .i64 0), (.int .i64 0), (.int .i64 0), (.int .i64 0), (.int .i64 0), (.slice none 0 0), (.int .i64 0)]⟩,
 ⟨none, none, .store 10 (.tmp 19) (.tmp 135)⟩,
 ⟨(some 20), none, .mov (.tmp 136)⟩])
 (.seq (.seq (.reg [⟨(some 137), none, .mov (.tmp 20)⟩,
 ⟨(some 138), none, .un .not (.tmp 137)⟩])
 (.cond (.tmp 138) (.seq (.reg [⟨(some 139), none, .call (.fn 13) []⟩,
 ⟨(some 8), none, .mov (.tmp 139)⟩])
 (.ret))
 (.skip)))
 (.seq (.reg [⟨(some 141), none, .load true 10 (.tmp 19)⟩,
 ⟨(some 142), none, .mov (.tmp 9)⟩,
 ⟨(some 143), none, .call (.fn 14) [(.tmp 141), (.tmp 142)]⟩,
 ⟨(some 140), none, .mov (.tmp 143)⟩,
 ⟨(some 144), none, .ext (.tmp 140) 0⟩,
 ⟨(some 145), none, .ext (.tmp 140) 1⟩,
 ⟨(some 21), none, .alloc [(.int .i64 0), (.int .i64 0)]⟩,
 ⟨none, none, .store 2 (.tmp 21) (.tmp 144)⟩,
 ⟨(some 22), none, .mov (.tmp 145)⟩])
 (.seq (.reg [⟨(some 147), none, .faddr 0 (.tmp 19)⟩,
 ⟨(some 148), none, .load true 3 (.tmp 147)⟩,
 ⟨(some 149), none, .call (.fn 15) [(.tmp 148)]⟩,
 ⟨(some 146), none, .mov (.tmp 149)⟩,
 ⟨(some 150), none, .ext (.tmp 146) 0⟩,
 ⟨(some 151), none, .ext (.tmp 146) 1⟩,
 ⟨(some 23), none, .alloc [(.int .i64 0), (.int .i64 0)]⟩,
 ⟨none, none, .store 2 (.tmp 23) (.tmp 150)⟩,
 ⟨(some 24), none, .mov (.tmp 151)⟩])
 (.seq (.reg [⟨(some 153), none, .load true 10 (.tmp 19)⟩,
 ⟨(some 154), none, .mov (.tmp 10)⟩,
 ⟨(some 155), none, .call (.fn 20) [(.tmp 153), (.tmp 154)]⟩,
 ⟨(some 152), none, .mov (.tmp 155)⟩,
 ⟨(some 156), none, .ext (.tmp 152) 0⟩,
 ⟨(some 157), none, .ext (.tmp 152) 1⟩,
 ⟨(some 25), none, .alloc [(.int .i64 0), (.int .i64 0)]⟩,
 ⟨none, none, .store 2 (.tmp 25) (.tmp 156)⟩,
 ⟨(some 26), none, .mov (.tmp 157)⟩])
 (.seq (.seq (.draw (.step ⟨(some 158), none, .mov (.tmp 22)⟩ (
 .step ⟨(some 159), none, .bin .neq (.tmp 158) (.lit (.int .i64 0))⟩ (
 .step ⟨(some 160), none, .mov (.tmp 159)⟩ (
 .step ⟨(some 161), (some (160, false)), .mov (.tmp 24)⟩ (
 .step ⟨(some 162), (some (160, false)), .bin .neq (.tmp 161) (.lit (.int .i64 0))⟩ (
 .step ⟨(some 163), none, .pick (.tmp 160) (.lit (.bool true)) (.tmp 162)⟩ (
 .step ⟨(some 164), none, .mov (.tmp 163)⟩ (
 .step ⟨(some 165), (some (164, false)), .mov (.tmp 26)⟩ (
 .step ⟨(some 166), (some (164, false)), .bin .neq (.tmp 165) (.lit (.int .i64 0))⟩ (
 .step ⟨(some 167), none, .pick (.tmp 164) (.lit (.bool true)) (.tmp 166)⟩ (
 .step ⟨(some 168), none, .mov (.tmp 167)⟩ (
 .step ⟨(some 169), (some (168, false)), .faddr 0 (.tmp 23)⟩ (
 .step ⟨(some 170), (some (168, false)), .load false 1 (.tmp 169)⟩ (
 .step ⟨(some 171), (some (168, false)), .faddr 0 (.tmp 13)⟩ (
 .step ⟨(some 172), (some (168, false)), .load false 1 (.tmp 171)⟩ (
 .step ⟨(some 173), (some (168, false)), .bin .lss (.tmp 170) (.tmp 172)⟩ (
 .step ⟨(some 174), none, .pick (.tmp 168) (.lit (.bool true)) (.tmp 173)⟩ (
 .step ⟨(some 175), none, .mov (.tmp 174)⟩ (
 .step ⟨(some 176), (some (175, false)), .faddr 1 (.tmp 23)⟩ (
 .step ⟨(some 177), (some (175, false)), .load false 1 (.tmp 176)⟩ (
 .step ⟨(some 178), (some (175, false)), .faddr 1 (.tmp 13)⟩ (
 .step ⟨(some 179), (some (175, false)), .load false 1 (.tmp 178)⟩ (
 .step ⟨(some 180), (some (175, false)), .bin .gtr (.tmp 177) (.tmp 179)⟩ (
 .step ⟨(some 181), none, .pick (.tmp 175) (.lit (.bool true)) (.tmp 180)⟩ (
 .step ⟨(some 182), none, .mov (.tmp 181)⟩ (
 .step ⟨(some 183), (some (182, false)), .faddr 0 (.tmp 21)⟩ (
 .step ⟨(some 184), (some (182, false)), .load false 1 (.tmp 183)⟩ (
 .step ⟨(some 185), (some (182, false)), .faddr 0 (.tmp 11)⟩ (
 .step ⟨(some 186), (some (182, false)), .load false 1 (.tmp 185)⟩ (
 .step ⟨(some 187), (some (182, false)), .bin .lss (.tmp 184) (.tmp 186)⟩ (
 .step ⟨(some 188), none, .pick (.tmp 182) (.lit (.bool true)) (.tmp 187)⟩ (
 .step ⟨(some 189), none, .mov (.tmp 188)⟩ (
 .step ⟨(some 190), (some (189, false)), .faddr 1 (.tmp 21)⟩ (
 .step ⟨(some 191), (some (189, false)), .load false 1 (.tmp 190)⟩ (
 .step ⟨(some 192), (some (189, false)), .faddr 1 (.tmp 11)⟩ (
 .step ⟨(some 193), (some (189, false)), .load false 1 (.tmp 192)⟩ (
 .step ⟨(some 194), (some (189, false)), .bin .gtr (.tmp 191) (.tmp 193)⟩ (
 .step ⟨(some 195), none, .pick (.tmp 189) (.lit (.bool true)) (.tmp 194)⟩ (
 .step ⟨(some 196), none, .mov (.tmp 195)⟩ (
 .step ⟨(some 197), (some (196, false)), .load true 2 (.tmp 25)⟩ (
 .step ⟨(some 198), (some (196, false)), .faddr 9 (.tmp 4)⟩ (
 .step ⟨(some 199), (some (196, false)), .load false 1 (.tmp 198)⟩ (
 .step ⟨(some 200), (some (196, false)), .mov (.tmp 18)⟩ (
 .step ⟨(some 201), (some (196, false)), .bin .mul (.tmp 199) (.tmp 200)⟩ (
 .step ⟨(some 202), (some (196, false)), .faddr 9 (.tmp 4)⟩ (
 .step ⟨(some 203), (some (196, false)), .load false 1 (.tmp 202)⟩ (
 .step ⟨(some 204), (some (196, false)), .mov (.tmp 18)⟩ (
 .step ⟨(some 205), (some (196, false)), .bin .mul (.tmp 203) (.tmp 204)⟩ (
 .ev ⟨(some 206), (some (196, false)), .call (.fn 18) [(.tmp 201), (.tmp 205)]⟩ [⟨(some 203), (some (196, false)), .load false 1 (.tmp 202)⟩, ⟨(some 202), (some (196, false)), .faddr 9 (.tmp 4)⟩, ⟨(some 199), (some (196, false)), .load false 1 (.tmp 198)⟩, ⟨(some 198), (some (196, false)), .faddr 9 (.tmp 4)⟩, ⟨(some 197), (some (196, false)), .load true 2 (.tmp 25)⟩, ⟨(some 193), (some (189, false)), .load false 1 (.tmp 192)⟩, ⟨(some 192), (some (189, false)), .faddr 1 (.tmp 11)⟩, ⟨(some 191), (some (189, false)), .load false 1 (.tmp 190)⟩, ⟨(some 190), (some (189, false)), .faddr 1 (.tmp 21)⟩, ⟨(some 186), (some (182, false)), .load false 1 (.tmp 185)⟩, ⟨(some 185), (some (182, false)), .faddr 0 (.tmp 11)⟩, ⟨(some 184), (some (182, false)), .load false 1 (.tmp 183)⟩, ⟨(some 183), (some (182, false)), .faddr 0 (.tmp 21)⟩, ⟨(some 179), (some (175, false)), .load false 1 (.tmp 178)⟩, ⟨(some 178), (some (175, false)), .faddr 1 (.tmp 13)⟩, ⟨(some 177), (some (175, false)), .load false 1 (.tmp 176)⟩, ⟨(some 176), (some (175, false)), .faddr 1 (.tmp 23)⟩, ⟨(some 172), (some (168, false)), .load false 1 (.tmp 171)⟩, ⟨(some 171), (some (168, false)), .faddr 0 (.tmp 13)⟩, ⟨(some 170), (some (168, false)), .load false 1 (.tmp 169)⟩, ⟨(some 169), (some (168, false)), .faddr 0 (.tmp 23)⟩] (
 .step ⟨(some 207), (some (196, false)), .eqs true [(some .i64), (some .i64)] (.tmp 197) (.tmp 206)⟩ (
 .step ⟨(some 208), none, .pick (.tmp 196) (.lit (.bool true)) (.tmp 207)⟩ (
 .done)))
 (.stop)))))))))))))))))))))))))))))))))))))))))))))))))))
 (.cond (.tmp 208) (.seq (.reg [⟨(some 8), none, .mov (.lit (.bool false))⟩])
 (.ret))
 (.skip)))
 (.seq (.seq (.gcp)
 (.reg [⟨(some 210), none, .faddr 0 (.tmp 4)⟩,
 ⟨(some 211), none, .load true 3 (.tmp 210)⟩,
 ⟨(some 212), none, .call (.fn 21) [(.tmp 211)]⟩,
 ⟨(some 209), none, .mov (.tmp 212)⟩,
 ⟨(some 213), none, .ext (.tmp 209) 0⟩,
 ⟨(some 214), none, .ext (.tmp 209) 1⟩,
 ⟨(some 27), none, .mov (.tmp 213)⟩,
 ⟨(some 28), none, .mov (.tmp 214)⟩]))
 (.seq (.reg [⟨(some 216), none, .faddr 0 (.tmp 4)⟩,
 ⟨(some 217), none, .load true 3 (.tmp 216)⟩,
 ⟨(some 218), none, .call (.fn 22) [(.tmp 217)]⟩,
 ⟨(some 215), none, .mov (.tmp 218)⟩,
 ⟨(some 219), none, .ext (.tmp 215) 0⟩,
 ⟨(some 220), none, .ext (.tmp 215) 1⟩,
 ⟨(some 221), none, .ext (.tmp 215) 2⟩,
 ⟨(some 29), none, .mov (.tmp 219)⟩,
 ⟨(some 30), none, .mov (.tmp 220)⟩,
 ⟨(some 31), none, .mov (.tmp 221)⟩])
 (.seq (.seq (.reg [⟨(some 222), none, .mov (.tmp 28)⟩,
 ⟨(some 223), none, .bin .neq (.tmp 222) (.lit (.int .i64 0))⟩,
 ⟨(some 224), none, .mov (.tmp 223)⟩,
 ⟨(some 225), (some (224, false)), .mov (.tmp 31)⟩,
 ⟨(some 226), (some (224, false)), .bin .eql (.tmp 225) (.lit (.int .i64 11))⟩,
 ⟨(some 227), (some (224, false)), .mov (.tmp 27)⟩,
 ⟨(some 228), (some (224, false)), .bin .eql (.tmp 227) (.lit (.int .i64 1))⟩,
 ⟨(some 229), (some (224, false)), .eqb true (.tmp 226) (.tmp 228)⟩,
 ⟨(some 230), none, .pick (.tmp 224) (.lit (.bool true)) (.tmp 229)⟩])
 (.cond (.tmp 230) (.seq (.reg [⟨(some 8), none, .mov (.lit (.bool false))⟩])
 (.ret))
 (.skip)))
 (.seq (.seq (.reg [⟨(some 231), none, .mov (.tmp 31)⟩,
 ⟨(some 232), none, .bin .neq (.tmp 231) (.lit (.int .i64 0))⟩])
 (.cond (.tmp 232) (.seq (.reg [⟨(some 233), none, .mov (.tmp 31)⟩,
 ⟨(some 234), none, .bin .eql (.tmp 233) (.lit (.int .i64 11))⟩,
 ⟨(some 235), none, .mov (.tmp 234)⟩,
 ⟨(some 236), (some (235, true)), .call (.fn 13) []⟩,
 ⟨(some 237), none, .pick (.tmp 235) (.tmp 236) (.lit (.bool false))⟩,
 ⟨(some 8), none, .mov (.tmp 237)⟩])
 (.ret))
 (.skip)))
 (.seq (.seq (.reg [⟨(some 238), none, .mov (.tmp 29)⟩,
 ⟨(some 239), none, .bin .lss (.tmp 238) (.lit (.int .i64 0))⟩,
 ⟨(some 240), none, .mov (.tmp 239)⟩,
 ⟨(some 241), (some (240, false)), .mov (.tmp 29)⟩,
 ⟨(some 242), (some (240, false)), .faddr 0 (.tmp 4)⟩,
 ⟨(some 243), (some (240, false)), .faddr 0 (.tmp 242)⟩,
 ⟨(some 244), (some (240, false)), .load false 1 (.tmp 243)⟩,
 ⟨(some 245), (some (240, false)), .len (.tmp 244)⟩,
 ⟨(some 246), (some (240, false)), .bin .geq (.tmp 241) (.tmp 245)⟩,
 ⟨(some 247), none, .pick (.tmp 240) (.lit (.bool true)) (.tmp 246)⟩])
 (.cond (.tmp 247) (.seq (.reg [⟨(some 8), none, .mov (.lit (.bool false))⟩])
 (.ret))
 (.skip)))
 (.seq (.reg [⟨(some 249), none, .faddr 0 (.tmp 4)⟩,
 ⟨(some 250), none, .load true 3 (.tmp 249)⟩,
 ⟨(some 251), none, .mov (.tmp 29)⟩,
 ⟨(some 252), none, .call (.fn 16) [(.tmp 250), (.tmp 251)]⟩,
 ⟨(some 248), none, .mov (.tmp 252)⟩,
 ⟨(some 253), none, .ext (.tmp 248) 0⟩,
 ⟨(some 254), none, .ext (.tmp 248) 1⟩,
 ⟨(some 32), none, .alloc [(.int .i64 0), (.int .i64 0)]⟩,
 ⟨none, none, .store 2 (.tmp 32) (.tmp 253)⟩,
 ⟨(some 33), none, .mov (.tmp 254)⟩])
 (.seq (.reg [⟨(some 34), none, .mov (.lit (.int .i64 0))⟩])
 (.seq (.seq (.reg [⟨(some 255), none, .faddr 0 (.tmp 32)⟩,
 ⟨(some 256), none, .load false 1 (.tmp 255)⟩,
 ⟨(some 35), none, .mov (.tmp 256)⟩])
 (.block 0 (.loop (.seq (.seq (.reg [⟨(some 257), none, .mov (.tmp 35)⟩,
 ⟨(some 258), none, .faddr 1 (.tmp 32)⟩,
 ⟨(some 259), none, .load false 1 (.tmp 258)⟩,
 ⟨(some 260), none, .bin .leq (.tmp 257) (.tmp 259)⟩])
 (.cond (.tmp 260) (.skip)
 (.exit 0)))
 (.seq (.block 1 (.seq (.reg [⟨(some 264), none, .mov (.tmp 17)⟩,
 ⟨(some 265), none, .mov (.tmp 29)⟩,
 ⟨(some 266), none, .mov (.tmp 35)⟩,
 ⟨(some 267), none, .call (.tmp 264) [(.tmp 265), (.tmp 266)]⟩,
 ⟨(some 263), none, .mov (.tmp 267)⟩,
 ⟨(some 268), none, .ext (.tmp 263) 0⟩,
 ⟨(some 269), none, .ext (.tmp 263) 1⟩,
 ⟨(some 36), none, .alloc [(.slice none 0 0), (.slice none 0 0), (.slice none 0 0), (.int .i64 0), (.int .i64 0), (.int .i64 0), (.int .i64 0), (.int .i64 0), (.slice none 0 0), (.int .i64 0)]⟩,
 ⟨none, none, .store 10 (.tmp 36) (.tmp 268)⟩,
 ⟨(some 37), none, .mov (.tmp 269)⟩])
 (.seq (.seq (.reg [⟨(some 270), none, .mov (.tmp 37)⟩,
 ⟨(some 271), none, .un .not (.tmp 270)⟩])
 (.cond (.tmp 271) (.seq (.reg [⟨(some 272), none, .call (.fn 13) []⟩,
 ⟨(some 8), none, .mov (.tmp 272)⟩])
 (.ret))
 (.skip)))
 (.seq (.reg [⟨(some 274), none, .faddr 0 (.tmp 36)⟩,
 ⟨(some 275), none, .load true 3 (.tmp 274)⟩,
 ⟨(some 276), none, .call (.fn 21) [(.tmp 275)]⟩,
 ⟨(some 273), none, .mov (.tmp 276)⟩,
 ⟨(some 277), none, .ext (.tmp 273) 0⟩,
 ⟨(some 278), none, .ext (.tmp 273) 1⟩,
 ⟨(some 38), none, .mov (.tmp 277)⟩,
 ⟨(some 39), none, .mov (.tmp 278)⟩])
 (.seq (.seq (.reg [⟨(some 279), none, .mov (.tmp 39)⟩,
 ⟨(some 280), none, .bin .neq (.tmp 279) (.lit (.int .i64 0))⟩,
 ⟨(some 281), none, .mov (.tmp 280)⟩,
 ⟨(some 282), (some (281, false)), .mov (.tmp 38)⟩,
 ⟨(some 283), (some (281, false)), .mov (.tmp 30)⟩,
 ⟨(some 284), (some (281, false)), .bin .gtr (.tmp 282) (.tmp 283)⟩,
 ⟨(some 285), none, .pick (.tmp 281) (.lit (.bool true)) (.tmp 284)⟩])
 (.cond (.tmp 285) (.seq (.reg [⟨(some 8), none, .mov (.lit (.bool false))⟩])
 (.ret))
 (.skip)))
 (.reg [⟨(some 286), none, .mov (.tmp 34)⟩,
 ⟨(some 287), none, .mov (.tmp 38)⟩,
 ⟨(some 288), none, .bin .add (.tmp 286) (.tmp 287)⟩,
 ⟨(some 34), none, .mov (.tmp 288)⟩]))))))
 (.reg [⟨(some 261), none, .mov (.tmp 35)⟩,
 ⟨(some 262), none, .bin .add (.tmp 261) (.lit (.int .i64 1))⟩,
 ⟨(some 35), none, .mov (.tmp 262)⟩]))))))
 (.seq (.reg [⟨(some 289), none, .mov (.tmp 33)⟩,
 ⟨(some 290), none, .bin .eql (.tmp 289) (.lit (.int .i64 0))⟩,
 ⟨(some 291), none, .mov (.tmp 290)⟩,
 ⟨(some 292), (some (291, true)), .mov (.tmp 34)⟩,
 ⟨(some 293), (some (291, true)), .mov (.tmp 27)⟩,
 ⟨(some 294), (some (291, true)), .bin .eql (.tmp 292) (.tmp 293)⟩,
 ⟨(some 295), none, .pick (.tmp 291) (.tmp 294) (.lit (.bool false))⟩,
 ⟨(some 296), none, .mov (.tmp 295)⟩,
 ⟨(some 297), (some (296, true)), .call (.fn 13) []⟩,
 ⟨(some 298), none, .pick (.tmp 296) (.tmp 297) (.lit (.bool false))⟩,
 ⟨(some 8), none, .mov (.tmp 298)⟩])
 (.ret)))))))))))))))))))))))))
theorem k3 : FnC Try.prog 3 299 [] [11, 21] [.tmp 8] c3 4 := ⟨Try.f3, _, Try.func3, rfl, by decide, rfl, by decide, by kernel_rfl, by kernel_rfl⟩
/-- dipworks/dipworkstop.alive11 -/
def c13 : AC :=
 .seq (.reg [⟨(some 0), none, .mov (.lit (.bool false))⟩])
 (.seq (.reg [⟨(some 6), none, .call (.fn 45) []⟩,
 ⟨(some 7), none, .call (.fn 14) [(.tmp 6), (.lit (.int .i64 3))]⟩,
 ⟨(some 5), none, .mov (.tmp 7)⟩,
 ⟨(some 8), none, .ext (.tmp 5) 0⟩,
 ⟨(some 9), none, .ext (.tmp 5) 1⟩,
 ⟨(some 1), none, .alloc [(.int .i64 0), (.int .i64 0)]⟩,
 ⟨none, none, .store 2 (.tmp 1) (.tmp 8)⟩,
 ⟨(some 2), none, .mov (.tmp 9)⟩])
 (.seq (.reg [⟨(some 11), none, .call (.fn 45) []⟩,
 ⟨(some 12), none, .field 0 true 3 (.tmp 11)⟩,
 ⟨(some 13), none, .call (.fn 15) [(.tmp 12)]⟩,
 ⟨(some 10), none, .mov (.tmp 13)⟩,
 ⟨(some 14), none, .ext (.tmp 10) 0⟩,
 ⟨(some 15), none, .ext (.tmp 10) 1⟩,
 ⟨(some 3), none, .alloc [(.int .i64 0), (.int .i64 0)]⟩,
 ⟨none, none, .store 2 (.tmp 3) (.tmp 14)⟩,
 ⟨(some 4), none, .mov (.tmp 15)⟩])
 (.seq (.draw (.step ⟨(some 16), none, .load true 2 (.tmp 1)⟩ (
 .ev ⟨(some 17), none, .call (.fn 18) [(.lit (.int .i64 7)), (.lit (.int .i64 13))]⟩ [⟨(some 16), none, .load true 2 (.tmp 1)⟩] (
 .step ⟨(some 18), none, .eqs false [(some .i64), (some .i64)] (.tmp 16) (.tmp 17)⟩ (
 .step ⟨(some 19), none, .mov (.tmp 18)⟩ (
 .step ⟨(some 20), (some (19, true)), .mov (.tmp 2)⟩ (
 .step ⟨(some 21), (some (19, true)), .bin .eql (.tmp 20) (.lit (.int .i64 0))⟩ (
 .step ⟨(some 22), none, .pick (.tmp 19) (.tmp 21) (.lit (.bool false))⟩ (
 .step ⟨(some 23), none, .mov (.tmp 22)⟩ (
 .step ⟨(some 24), (some (23, true)), .load true 2 (.tmp 3)⟩ (
 .ev ⟨(some 25), (some (23, true)), .call (.fn 18) [(.lit (.int .i64 3)), (.lit (.int .i64 4))]⟩ [⟨(some 24), (some (23, true)), .load true 2 (.tmp 3)⟩, ⟨(some 18), none, .eqs false [(some .i64), (some .i64)] (.tmp 16) (.tmp 17)⟩, ⟨(some 16), none, .load true 2 (.tmp 1)⟩] (
 .step ⟨(some 26), (some (23, true)), .eqs false [(some .i64), (some .i64)] (.tmp 24) (.tmp 25)⟩ (
 .step ⟨(some 27), none, .pick (.tmp 23) (.tmp 26) (.lit (.bool false))⟩ (
 .step ⟨(some 28), none, .mov (.tmp 27)⟩ (
 .step ⟨(some 29), (some (28, true)), .mov (.tmp 4)⟩ (
 .step ⟨(some 30), (some (28, true)), .bin .eql (.tmp 29) (.lit (.int .i64 0))⟩ (
 .step ⟨(some 31), none, .pick (.tmp 28) (.tmp 30) (.lit (.bool false))⟩ (
 .step ⟨(some 0), none, .mov (.tmp 31)⟩ (
 .done))))))))
 (.stop)))))))))
 (.stop))))
 (.ret))))
theorem k13 : FnC Try.prog 13 32 [] [] [.tmp 0] c13 0 := ⟨Try.f13, _, Try.func13, rfl, by decide, rfl, by decide, by kernel_rfl, by kernel_rfl⟩
/-- dipworks/dipworkstop.TopFound$1 -/
def c17 : AC :=
 .seq (.reg [⟨(some 5), none, .alloc [(.slice none 0 0), (.slice none 0 0), (.slice none 0 0), (.int .i64 0), (.int .i64 0), (.int .i64 0), (.int .i64 0), (.int .i64 0), (.slice none 0 0), (.int .i64 0)]⟩,
 ⟨(some 6), none, .mov (.lit (.bool false))⟩])
 (.seq (.reg [⟨(some 9), none, .load true 10 (.tmp 2)⟩,
 ⟨(some 7), none, .alloc [(.slice none 0 0), (.slice none 0 0), (.slice none 0 0), (.int .i64 0), (.int .i64 0), (.int .i64 0), (.int .i64 0), (.int .i64 0), (.slice none 0 0), (.int .i64 0)]⟩,
 ⟨none, none, .store 10 (.tmp 7) (.tmp 9)⟩])
 (.seq (.reg [⟨(some 10), none, .bslice 6 (.agg #[(.int .i64 0), (.int .i64 0), (.int .i64 0), (.int .i64 0), (.int .i64 0), (.int .i64 0)]) 0 []⟩,
 ⟨(some 11), none, .faddr 0 (.tmp 2)⟩,
 ⟨(some 12), none, .faddr 0 (.tmp 11)⟩,
 ⟨(some 13), none, .load false 1 (.tmp 12)⟩,
 ⟨(some 14), none, .app 6 48 (.tmp 10) (.tmp 13)⟩,
 ⟨(some 15), none, .faddr 0 (.tmp 7)⟩,
 ⟨(some 16), none, .faddr 0 (.tmp 15)⟩,
 ⟨none, none, .store 1 (.tmp 16) (.tmp 14)⟩])
 (.seq (.reg [⟨(some 17), none, .faddr 0 (.tmp 7)⟩,
 ⟨(some 18), none, .faddr 0 (.tmp 17)⟩,
 ⟨(some 19), none, .load false 1 (.tmp 18)⟩,
 ⟨(some 20), none, .mov (.tmp 0)⟩,
 ⟨(some 21), none, .iaddr 6 (.tmp 19) (.tmp 20)⟩,
 ⟨(some 8), none, .mov (.tmp 21)⟩])
 (.seq (.reg [⟨(some 22), none, .mov (.tmp 8)⟩,
 ⟨(some 23), none, .mov (.tmp 8)⟩,
 ⟨(some 24), none, .mov (.tmp 1)⟩,
 ⟨(some 25), none, .mov (.tmp 1)⟩,
 ⟨(some 26), none, .call (.fn 18) [(.tmp 24), (.tmp 25)]⟩,
 ⟨(some 27), none, .call (.fn 18) [(.lit (.int .i64 0)), (.lit (.int .i64 0))]⟩,
 ⟨(some 28), none, .nilck (.tmp 22)⟩,
 ⟨(some 29), none, .faddr 2 (.tmp 28)⟩,
 ⟨none, none, .store 2 (.tmp 29) (.tmp 26)⟩,
 ⟨(some 30), none, .nilck (.tmp 23)⟩,
 ⟨(some 31), none, .faddr 4 (.tmp 30)⟩,
 ⟨none, none, .store 2 (.tmp 31) (.tmp 27)⟩])
 (.seq (.draw (.step ⟨(some 32), none, .load true 10 (.tmp 7)⟩ (
 .step ⟨(some 33), none, .faddr 0 (.tmp 7)⟩ (
 .step ⟨(some 34), none, .load true 3 (.tmp 33)⟩ (
 .ev ⟨(some 35), none, .call (.fn 19) [(.tmp 34)]⟩ [⟨(some 33), none, .faddr 0 (.tmp 7)⟩, ⟨(some 32), none, .load true 10 (.tmp 7)⟩] (
 .ev ⟨none, none, .store 10 (.tmp 5) (.tmp 32)⟩ [⟨(some 34), none, .load true 3 (.tmp 33)⟩, ⟨(some 33), none, .faddr 0 (.tmp 7)⟩] (
 .step ⟨(some 6), none, .mov (.tmp 35)⟩ (
 .done))
 (.stop))
 (.stop))))))
 (.ret))))))
theorem k17 : FnC Try.prog 17 36 [5] [] [.cell 5 true 10, .tmp 6] c17 3 := ⟨Try.f17, _, Try.func17, rfl, by decide, rfl, by decide, by kernel_rfl, by kernel_rfl⟩
/-- dipworks/dipworkstop.span03 -/
def c18 : AC :=
 .seq (.reg [⟨(some 4), none, .alloc [(.int .i64 0), (.int .i64 0)]⟩])
 (.seq (.reg [⟨(some 5), none, .mov (.tmp 0)⟩,
 ⟨(some 6), none, .mov (.tmp 1)⟩,
 ⟨(some 7), none, .build [(.int .i64 0), (.int .i64 0)] [(0, 1, (.tmp 5)), (1, 1, (.tmp 6))]⟩,
 ⟨none, none, .store 2 (.tmp 4) (.tmp 7)⟩])
 (.ret))
theorem k18 : FnC Try.prog 18 8 [4] [] [.cell 4 true 2] c18 2 := ⟨Try.f18, _, Try.func18, rfl, by decide, rfl, by decide, by kernel_rfl, by kernel_rfl⟩
/-- dipworks/dipworkstop.rail11 -/
def c45 : AC :=
 .seq (.reg [⟨(some 0), none, .alloc [(.slice none 0 0), (.slice none 0 0), (.slice none 0 0), (.int .i64 0), (.int .i64 0), (.int .i64 0), (.int .i64 0), (.int .i64 0), (.slice none 0 0), (.int .i64 0)]⟩])
 (.seq (.reg [⟨(some 2), none, .call (.fn 18) [(.lit (.int .i64 2)), (.lit (.int .i64 2))]⟩,
 ⟨(some 3), none, .call (.fn 18) [(.lit (.int .i64 1)), (.lit (.int .i64 2))]⟩,
 ⟨(some 4), none, .build [(.int .i64 0), (.int .i64 0), (.int .i64 0), (.int .i64 0), (.int .i64 0), (.int .i64 0)] [(2, 2, (.tmp 2)), (4, 2, (.tmp 3))]⟩,
 ⟨(some 5), none, .call (.fn 18) [(.lit (.int .i64 2)), (.lit (.int .i64 3))]⟩,
 ⟨(some 6), none, .call (.fn 18) [(.lit (.int .i64 1)), (.lit (.int .i64 1))]⟩,
 ⟨(some 7), none, .build [(.int .i64 0), (.int .i64 0), (.int .i64 0), (.int .i64 0), (.int .i64 0), (.int .i64 0)] [(1, 1, (.lit (.int .i64 1))), (2, 2, (.tmp 5)), (4, 2, (.tmp 6))]⟩,
 ⟨(some 8), none, .call (.fn 18) [(.lit (.int .i64 1)), (.lit (.int .i64 1))]⟩,
 ⟨(some 9), none, .call (.fn 18) [(.lit (.int .i64 0)), (.lit (.int .i64 1))]⟩,
 ⟨(some 10), none, .build [(.int .i64 0), (.int .i64 0), (.int .i64 0), (.int .i64 0), (.int .i64 0), (.int .i64 0)] [(0, 1, (.lit (.int .i64 1))), (2, 2, (.tmp 8)), (4, 2, (.tmp 9))]⟩,
 ⟨(some 11), none, .call (.fn 18) [(.lit (.int .i64 3)), (.lit (.int .i64 3))]⟩,
 ⟨(some 12), none, .call (.fn 18) [(.lit (.int .i64 0)), (.lit (.int .i64 3))]⟩,
 ⟨(some 13), none, .build [(.int .i64 0), (.int .i64 0), (.int .i64 0), (.int .i64 0), (.int .i64 0), (.int .i64 0)] [(0, 1, (.lit (.int .i64 1))), (1, 1, (.lit (.int .i64 1))), (2, 2, (.tmp 11)), (4, 2, (.tmp 12))]⟩,
 ⟨(some 14), none, .bslice 6 (.agg #[(.int .i64 0), (.int .i64 0), (.int .i64 0), (.int .i64 0), (.int .i64 0), (.int .i64 0)]) 4 [(0, (.tmp 4)), (1, (.tmp 7)), (2, (.tmp 10)), (3, (.tmp 13))]⟩,
 ⟨(some 15), none, .call (.fn 18) [(.lit (.int .i64 2)), (.lit (.int .i64 2))]⟩,
 ⟨(some 16), none, .call (.fn 18) [(.lit (.int .i64 1)), (.lit (.int .i64 2))]⟩,
 ⟨(some 17), none, .bslice 2 (.agg #[(.int .i64 0), (.int .i64 0)]) 2 [(0, (.tmp 15)), (1, (.tmp 16))]⟩,
 ⟨(some 18), none, .call (.fn 18) [(.lit (.int .i64 1)), (.lit (.int .i64 1))]⟩,
 ⟨(some 19), none, .call (.fn 18) [(.lit (.int .i64 2)), (.lit (.int .i64 3))]⟩,
 ⟨(some 20), none, .bslice 2 (.agg #[(.int .i64 0), (.int .i64 0)]) 2 [(0, (.tmp 18)), (1, (.tmp 19))]⟩,
 ⟨(some 21), none, .build [(.slice none 0 0), (.slice none 0 0), (.slice none 0 0)] [(0, 1, (.tmp 14)), (1, 1, (.tmp 17)), (2, 1, (.tmp 20))]⟩,
 ⟨(some 1), none, .alloc [(.slice none 0 0), (.slice none 0 0), (.slice none 0 0)]⟩,
 ⟨none, none, .store 3 (.tmp 1) (.tmp 21)⟩])
 (.seq (.draw (.step ⟨(some 22), none, .load true 3 (.tmp 1)⟩ (
 .ev ⟨(some 23), none, .call (.fn 18) [(.lit (.int .i64 3)), (.lit (.int .i64 4))]⟩ [⟨(some 22), none, .load true 3 (.tmp 1)⟩] (
 .step ⟨(some 24), none, .build [(.int .i64 0), (.int .i64 0), (.int .i64 0), (.int .i64 0)] [(0, 1, (.lit (.int .i64 5))), (2, 2, (.tmp 23))]⟩ (
 .ev ⟨(some 25), none, .call (.fn 18) [(.lit (.int .i64 2)), (.lit (.int .i64 2))]⟩ [⟨(some 22), none, .load true 3 (.tmp 1)⟩] (
 .step ⟨(some 26), none, .build [(.int .i64 0), (.int .i64 0), (.int .i64 0), (.int .i64 0)] [(0, 1, (.lit (.int .i64 4))), (1, 1, (.lit (.int .i64 3))), (2, 2, (.tmp 25))]⟩ (
 .ev ⟨(some 27), none, .bslice 4 (.agg #[(.int .i64 0), (.int .i64 0), (.int .i64 0), (.int .i64 0)]) 2 [(0, (.tmp 24)), (1, (.tmp 26))]⟩ [⟨(some 22), none, .load true 3 (.tmp 1)⟩] (
 .step ⟨(some 28), none, .build [(.slice none 0 0), (.slice none 0 0), (.slice none 0 0), (.int .i64 0), (.int .i64 0), (.int .i64 0), (.int .i64 0), (.int .i64 0), (.slice none 0 0), (.int .i64 0)] [(0, 3, (.tmp 22)), (3, 1, (.lit (.int .i64 20))), (4, 1, (.lit (.int .i64 8))), (5, 1, (.lit (.int .i64 12))), (6, 1, (.lit (.int .i64 16))), (7, 1, (.lit (.int .i64 2))), (8, 1, (.tmp 27)), (9, 1, (.lit (.int .i64 6)))]⟩ (
 .ev ⟨none, none, .store 10 (.tmp 0) (.tmp 28)⟩ [] (
 .done)
 (.stop)))
 (.stop)))
 (.stop)))
 (.stop))))
 (.ret)))
theorem k45 : FnC Try.prog 45 29 [0] [] [.cell 0 true 10] c45 0 := ⟨Try.f45, _, Try.func45, rfl, by decide, rfl, by decide, by kernel_rfl, by kernel_rfl⟩
end Go.Proofs.Ytcpkkjbkbdmopaa

/- TopFound's example, and the towels of which it was found how many a bather kept: contracts. -/
namespace Go.Proofs.Ytcpkkjbkbdmopaa
open Go Go.Ab

theorem span3_ok (lo hi : Int) : ACall Try.prog 18 [.t (vi lo), .t (vi hi)] [] (ret (tS (lo, hi))) := by
  refine ACall.walk k18 ?_
  unfold c18
  simp only [go_sem, Nat.reduceEqDiff, Nat.reduceAdd, Nat.reduceLeDiff, undef]
  exact finL_ret [] ⟨rfl, rfl, rfl, rfl, _, rfl, ret_mk rfl⟩
def tw11 : Tw := ⟨[⟨0, 0, 2, 2, 1, 2⟩, ⟨0, 1, 2, 3, 1, 1⟩, ⟨1, 0, 1, 1, 0, 1⟩, ⟨1, 1, 3, 3, 0, 3⟩], [(2, 2), (1, 2)], [(1, 1), (2, 3)]⟩
def ra11 : Ra := ⟨tw11, 20, 8, 12, 16, 2, [⟨5, 0, 3, 4⟩, ⟨4, 3, 2, 2⟩], 6⟩
set_option maxRecDepth 8000 in
set_option maxHeartbeats 4000000 in
theorem rail11_ok : ACall Try.prog 45 [] [] (ret (tRa ra11)) := by
  have sp : ∀ a b {σ : List AO} {R : Lz (Out → List AO → Prop)}, R.get (.ret (.t (tS (a, b)))) σ → @ACallL Try.prog 18 [.t (vi a), .t (vi b)] σ R := fun a b {σ R} h => ACallL.fresh1 (span3_ok a b) rfl h
  refine ACall.walk k45 ?_
  unfold c45
  simp only [go_sem]
  repeat' (first
    | refine sp _ _ ?_
    | refine AndL.mk ?_ ?_
    | simp only [tS, go_sem, Nat.reduceEqDiff, Nat.reduceAdd, Nat.reduceLT, Nat.reduceLeDiff, undef])
  all_goals exact finL_ret [] ⟨rfl, rfl, rfl, rfl, _, rfl, ret_mk rfl⟩
theorem lens11 : Lens ra11 := ⟨by simp [ra11, tw11], by simp [ra11]⟩
theorem ex11a : specReady ra11 3 = ((7, 13), 0) := by decide +kernel
theorem ex11b : specAll ra11.tw = ((3, 4), 0) := by decide +kernel
set_option maxRecDepth 8000 in
set_option maxHeartbeats 4000000 in
theorem alive11_ok : ACall Try.prog 13 [] [] (ret (vb true)) := by
  have sp : ∀ a b {σ : List AO} {R : Lz (Out → List AO → Prop)}, R.get (.ret (.t (tS (a, b)))) σ → @ACallL Try.prog 18 [.t (vi a), .t (vi b)] σ R := fun a b {σ R} h => ACallL.fresh1 (span3_ok a b) rfl h
  have h0 := rail11_ok
  have h1 := Ready_ok ra11 3 lens11
  have h2 := All_ok ra11.tw
  rw [ex11a] at h1
  rw [ex11b] at h2
  refine ACall.walk k13 ?_
  unfold c13
  unfold tRa at h0 h1
  unfold tw3 at h0 h1 h2
  unfold ra7 at h0 h1
  simp only [List.cons_append, List.nil_append] at h0 h1
  simp only [go_sem]
  refine ACallL.fresh1 h0 rfl ?_
  simp only [go_sem, Nat.reduceEqDiff]
  refine ACallL.fresh1 h1 rfl ?_
  simp only [spanE, tS, go_sem, Nat.reduceEqDiff, Nat.reduceAdd, undef]
  refine ACallL.fresh1 h0 rfl ?_
  simp only [go_sem, Nat.reduceEqDiff, Nat.reduceAdd, Nat.reduceLeDiff]
  refine ACallL.fresh1 h2 rfl ?_
  simp only [spanE, tS, go_sem, Nat.reduceEqDiff, Nat.reduceAdd, undef]
  repeat' (first
    | refine sp _ _ ?_
    | refine AndL.mk ?_ ?_
    | simp only [tS, go_sem, Nat.reduceEqDiff, Nat.reduceAdd, Bool.not_true, undef, beq_self_eq_true, Bool.and_true, toKey, cellKeys, cellKey, kEq, cellEq])
  all_goals exact finL_ret [] ⟨rfl, rfl, rfl, rfl, _, rfl, ret_mk rfl⟩

set_option maxRecDepth 8000 in
set_option maxHeartbeats 4000000 in
theorem found_ok' (r : Ra) (hr : r.OK) (n : Nat) (k : Int) {b : B} (hb : r.tw.bs[n]? = some b) : ACall Try.prog 17 [.t (vi n), .t (vi k), .t (.ptr (tRa r) 0)] [] (res (.ret (.tup [.t (tRa (r.found n k)), .t (vb (foundT r.tw n k).ok)]))) := by
  have ht := rtowels_ok (foundT r.tw n k)
  have sp : ∀ a b {σ : List AO} {R : Lz (Out → List AO → Prop)}, R.get (.ret (.t (tS (a, b)))) σ → @ACallL Try.prog 18 [.t (vi a), .t (vi b)] σ R := fun a b {σ R} h => ACallL.fresh1 (span3_ok a b) rfl h
  have hn := (List.getElem?_eq_some_iff.1 hb).1
  have nb := hr.tw.nb
  have htb : tB b = .agg [vi b.hut, vi b.half, vi b.ll, vi b.lh, vi b.bl, vi b.bh] := rfl
  have hn0 : ((n : Int) < 0) = False := eq_false (by omega)
  have hnl : ((n : Int) < (r.tw.bs.length : Int)) = True := eq_true (by omega)
  have x1 : (r.tw.bs.length ≤ maxLen) = True := eq_true (by unfold maxLen; omega)
  have x2 : (r.tw.bs.length * 48 ≤ 140737488355328) = True := eq_true (by omega)
  have gs : ∀ e : E, (((r.tw.bs.map tB).map E.t).set n e)[n]? = some e := fun e => List.getElem?_set_self (by simpa using hn)
  have ss : ∀ e e' : E, (((r.tw.bs.map tB).map E.t).set n e).set n e' = ((r.tw.bs.map tB).map E.t).set n e' := fun e e' => List.set_set _
  refine ACall.walk k17 ?_
  unfold c17
  unfold tRa tw3 ra7
  simp only [go_sem, Nat.reduceEqDiff, Nat.reduceAdd, Nat.reduceLeDiff, undef, List.length_map, hnl, x1, x2, Option.map_some]
  refine sp _ _ ?_
  simp only [tS, go_sem]
  refine sp _ _ ?_
  simp only [tS, go_sem, Nat.reduceEqDiff, Nat.reduceAdd, Nat.reduceLeDiff, Bool.not_true, undef, List.length_map, hb, htb, List.getElem?_map, Option.map_some, gs, ss, List.length_set]
  have hfe := found_eq hb k
  have hset : ((r.tw.bs.map tB).map E.t).set n (E.t (.agg [vi b.hut, vi b.half, vi k, vi k, vi 0, vi 0])) = (((r.tw.bs.set n (fbB b k)).map tB).map E.t) := by
    rw [List.map_set, List.map_set]; rfl
  have key : ∀ (σ : List AO) (m : Nat), σ[2]? = some (.row 6 (((r.tw.bs.set n (fbB b k)).map tB).map E.t)) → E.gc [] σ (m + 2) (.loc 2 r.tw.bs.length) = .t (.slice 6 ((r.tw.bs.set n (fbB b k)).map tB)) := fun σ m h => gc_loc rfl h (by simp)
  rw [hset]
  unfold Ra.found
  rw [hfe] at ht ⊢
  generalize r.tw.bs.set n (fbB b k) = bs' at *
  generalize Tw.ok { bs := bs', hs := r.tw.hs, vs := r.tw.vs } = v at *
  unfold tw3 at ht
  simp only at ht
  refine ACallL.quiet1 ht rfl ?_ rfl ?_
  · simp only [List.map_cons, List.map_nil]
    rw [E.gc]
    simp only [List.map_cons, List.map_nil]
    rw [key _ 9 rfl]
    rfl
  simp only [go_sem, Nat.reduceEqDiff, Nat.reduceAdd, Nat.reduceLeDiff, undef]
  refine finL_ret [] ⟨rfl, rfl, rfl, rfl, _, rfl, res_mk (congrArg Out.ret ?_)⟩
  have hg : ∀ σ : List AO, σ[2]? = some (.row 6 ((bs'.map tB).map .t)) → E.gc [] σ 11 (.agg [.loc 2 r.tw.bs.length, .t (.slice 2 (r.tw.hs.map tS)), .t (.slice 2 (r.tw.vs.map tS)), .t (vi r.stock), .t (vi r.hours), .t (vi r.sun), .t (vi r.rain), .t (vi r.perhaps), .t (.slice 4 (r.lines.map tLn)), .t (vi r.price)]) = .t (.agg [.slice 6 (bs'.map tB), .slice 2 (r.tw.hs.map tS), .slice 2 (r.tw.vs.map tS), vi r.stock, vi r.hours, vi r.sun, vi r.rain, vi r.perhaps, .slice 4 (r.lines.map tLn), vi r.price]) := by
    intro σ h
    rw [E.gc]
    simp only [List.map_cons, List.map_nil]
    rw [key σ 8 h]
    rfl
  show E.gc [] _ 12 (.tup [.agg [.loc 2 r.tw.bs.length, .t (.slice 2 (r.tw.hs.map tS)), .t (.slice 2 (r.tw.vs.map tS)), .t (vi r.stock), .t (vi r.hours), .t (vi r.sun), .t (vi r.rain), .t (vi r.perhaps), .t (.slice 4 (r.lines.map tLn)), .t (vi r.price)], .t (vb v)]) = _
  rw [E.gc]
  simp only [List.map_cons, List.map_nil]
  rw [hg _ rfl]
  rfl
end Go.Proofs.Ytcpkkjbkbdmopaa
