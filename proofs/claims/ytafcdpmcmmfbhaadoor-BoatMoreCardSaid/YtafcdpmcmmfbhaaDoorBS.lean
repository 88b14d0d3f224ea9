/- Proved here: laws that the statements need (BoC312, BoXD). No conditions but those that each law states. -/
import Derived.Test.YtafcdpmcmmfbhaaDoorFL
import Derived.Test.YtafcdpmcmmfbhaaDoorProg
import Derived.Test.YtafcdpmcmmfbhaaDoorBR

set_option linter.unusedSimpArgs false
set_option linter.unusedVariables false

/- Compiled code of functions, printed by program; each is checked to be the program's. No conditions. -/
namespace Go.Proofs.YtafcdpmcmmfbhaaDoor
open Go Go.Ab
/-- dipworks/dipworkslaw12.BoatMore -/
def c12 : AC :=
 .seq (.reg [⟨(some 5), none, .box (.tmp 0)⟩,
 ⟨(some 10), none, .mov (.lit (.bool false))⟩])
 (.seq (.seq (.reg [⟨(some 33), none, .load true 5 (.tmp 5)⟩,
 ⟨(some 34), none, .call (.fn 32) [(.tmp 33)]⟩,
 ⟨(some 35), none, .un .not (.tmp 34)⟩,
 ⟨(some 36), none, .mov (.tmp 35)⟩,
 ⟨(some 37), (some (36, false)), .faddr 4 (.tmp 5)⟩,
 ⟨(some 38), (some (36, false)), .load false 1 (.tmp 37)⟩,
 ⟨(some 39), (some (36, false)), .len (.tmp 38)⟩,
 ⟨(some 40), (some (36, false)), .bin .eql (.tmp 39) (.lit (.int .i64 0))⟩,
 ⟨(some 41), none, .pick (.tmp 36) (.lit (.bool true)) (.tmp 40)⟩])
 (.cond (.tmp 41) (.seq (.reg [⟨(some 42), none, .call (.fn 15) []⟩,
 ⟨(some 10), none, .mov (.tmp 42)⟩])
 (.ret))
 (.skip)))
 (.seq (.draw (.step ⟨(some 43), none, .mov (.tmp 1)⟩ (
 .step ⟨(some 44), none, .conv .i64 (.tmp 43)⟩ (
 .step ⟨(some 45), none, .faddr 4 (.tmp 5)⟩ (
 .step ⟨(some 46), none, .load false 1 (.tmp 45)⟩ (
 .step ⟨(some 47), none, .len (.tmp 46)⟩ (
 .step ⟨(some 48), none, .bin .rem (.tmp 44) (.tmp 47)⟩ (
 .step ⟨(some 49), none, .mov (.tmp 2)⟩ (
 .step ⟨(some 50), none, .conv .i64 (.tmp 49)⟩ (
 .step ⟨(some 51), none, .faddr 3 (.tmp 5)⟩ (
 .step ⟨(some 52), none, .load false 1 (.tmp 51)⟩ (
 .step ⟨(some 53), none, .bin .add (.tmp 52) (.lit (.int .i64 1))⟩ (
 .step ⟨(some 54), none, .bin .rem (.tmp 50) (.tmp 53)⟩ (
 .step ⟨(some 11), none, .mov (.tmp 48)⟩ (
 .step ⟨(some 12), none, .mov (.tmp 54)⟩ (
 .done))))))))))))))))
 (.seq (.reg [⟨(some 13), none, .mov (.lit (.slice none 0 0))⟩])
 (.seq (.seq (.draw (.step ⟨(some 56), none, .load true 5 (.tmp 5)⟩ (
 .step ⟨(some 57), none, .mov (.tmp 11)⟩ (
 .step ⟨(some 58), none, .mov (.tmp 3)⟩ (
 .step ⟨(some 59), none, .conv .i64 (.tmp 58)⟩ (
 .step ⟨(some 60), none, .faddr 3 (.tmp 5)⟩ (
 .step ⟨(some 61), none, .load false 1 (.tmp 60)⟩ (
 .step ⟨(some 62), none, .bin .add (.tmp 61) (.lit (.int .i64 1))⟩ (
 .step ⟨(some 63), none, .bin .rem (.tmp 59) (.tmp 62)⟩ (
 .step ⟨(some 64), none, .mov (.tmp 4)⟩ (
 .step ⟨(some 65), none, .conv .i64 (.tmp 64)⟩ (
 .step ⟨(some 66), none, .faddr 1 (.tmp 5)⟩ (
 .step ⟨(some 67), none, .load false 1 (.tmp 66)⟩ (
 .step ⟨(some 68), none, .bin .rem (.tmp 65) (.tmp 67)⟩ (
 .ev ⟨(some 69), none, .call (.fn 41) [(.tmp 56), (.tmp 57), (.tmp 63), (.tmp 68)]⟩ [⟨(some 67), none, .load false 1 (.tmp 66)⟩, ⟨(some 66), none, .faddr 1 (.tmp 5)⟩, ⟨(some 61), none, .load false 1 (.tmp 60)⟩, ⟨(some 60), none, .faddr 3 (.tmp 5)⟩] (
 .step ⟨(some 55), none, .mov (.tmp 69)⟩ (
 .step ⟨(some 70), none, .ext (.tmp 55) 0⟩ (
 .step ⟨(some 71), none, .ext (.tmp 55) 1⟩ (
 .ev ⟨(some 14), none, .alloc [(.int .i64 0), (.int .i64 0), (.int .i64 0), (.int .i64 0), (.slice none 0 0)]⟩ [⟨(some 67), none, .load false 1 (.tmp 66)⟩, ⟨(some 66), none, .faddr 1 (.tmp 5)⟩, ⟨(some 61), none, .load false 1 (.tmp 60)⟩, ⟨(some 60), none, .faddr 3 (.tmp 5)⟩, ⟨(some 56), none, .load true 5 (.tmp 5)⟩] (
 .ev ⟨none, none, .store 5 (.tmp 14) (.tmp 70)⟩ [] (
 .step ⟨(some 15), none, .mov (.tmp 71)⟩ (
 .done))
 (.stop))
 (.stop)))))
 (.ev ⟨(some 14), none, .alloc [(.int .i64 0), (.int .i64 0), (.int .i64 0), (.int .i64 0), (.slice none 0 0)]⟩ [⟨(some 67), none, .load false 1 (.tmp 66)⟩, ⟨(some 66), none, .faddr 1 (.tmp 5)⟩, ⟨(some 61), none, .load false 1 (.tmp 60)⟩, ⟨(some 60), none, .faddr 3 (.tmp 5)⟩, ⟨(some 56), none, .load true 5 (.tmp 5)⟩] (
 .ev ⟨(some 69), none, .call (.fn 41) [(.tmp 56), (.tmp 57), (.tmp 63), (.tmp 68)]⟩ [⟨(some 67), none, .load false 1 (.tmp 66)⟩, ⟨(some 66), none, .faddr 1 (.tmp 5)⟩, ⟨(some 61), none, .load false 1 (.tmp 60)⟩, ⟨(some 60), none, .faddr 3 (.tmp 5)⟩] (
 .step ⟨(some 55), none, .mov (.tmp 69)⟩ (
 .step ⟨(some 70), none, .ext (.tmp 55) 0⟩ (
 .step ⟨(some 71), none, .ext (.tmp 55) 1⟩ (
 .ev ⟨none, none, .store 5 (.tmp 14) (.tmp 70)⟩ [] (
 .step ⟨(some 15), none, .mov (.tmp 71)⟩ (
 .done))
 (.stop)))))
 (.stop))
 (.stop)))))))))))))))))
 (.seq (.reg [⟨(some 72), none, .mov (.tmp 15)⟩])
 (.cond (.tmp 72) (.reg [⟨(some 73), none, .mov (.tmp 13)⟩,
 ⟨(some 74), none, .load true 5 (.tmp 14)⟩,
 ⟨(some 75), none, .bslice 5 (.agg #[(.int .i64 0), (.int .i64 0), (.int .i64 0), (.int .i64 0), (.slice none 0 0)]) 1 [(0, (.tmp 74))]⟩,
 ⟨(some 76), none, .app 5 56 (.tmp 73) (.tmp 75)⟩,
 ⟨(some 13), none, .mov (.tmp 76)⟩])
 (.skip))))
 (.seq (.seq (.gcp)
 (.reg [⟨(some 77), none, .load true 5 (.tmp 5)⟩,
 ⟨(some 16), none, .alloc [(.int .i64 0), (.int .i64 0), (.int .i64 0), (.int .i64 0), (.slice none 0 0)]⟩,
 ⟨none, none, .store 5 (.tmp 16) (.tmp 77)⟩]))
 (.seq (.seq (.reg [⟨(some 78), none, .faddr 4 (.tmp 5)⟩,
 ⟨(some 79), none, .load false 1 (.tmp 78)⟩,
 ⟨(some 80), none, .mov (.tmp 11)⟩,
 ⟨(some 81), none, .iaddr 1 (.tmp 79) (.tmp 80)⟩,
 ⟨(some 82), none, .load false 1 (.tmp 81)⟩,
 ⟨(some 83), none, .len (.tmp 82)⟩,
 ⟨(some 17), none, .mov (.tmp 83)⟩])
 (.seq (.reg [⟨(some 84), none, .mov (.tmp 17)⟩,
 ⟨(some 85), none, .bin .gtr (.tmp 84) (.lit (.int .i64 0))⟩])
 (.cond (.tmp 85) (.seq (.reg [⟨(some 86), none, .mov (.tmp 4)⟩,
 ⟨(some 87), none, .conv .i64 (.tmp 86)⟩,
 ⟨(some 88), none, .mov (.tmp 17)⟩,
 ⟨(some 89), none, .bin .rem (.tmp 87) (.tmp 88)⟩,
 ⟨(some 18), none, .mov (.tmp 89)⟩])
 (.seq (.reg [⟨(some 90), none, .load true 5 (.tmp 5)⟩,
 ⟨(some 19), none, .alloc [(.int .i64 0), (.int .i64 0), (.int .i64 0), (.int .i64 0), (.slice none 0 0)]⟩,
 ⟨none, none, .store 5 (.tmp 19) (.tmp 90)⟩])
 (.seq (.reg [⟨(some 91), none, .bslice 1 (.slice none 0 0) 0 []⟩,
 ⟨(some 92), none, .faddr 4 (.tmp 5)⟩,
 ⟨(some 93), none, .load false 1 (.tmp 92)⟩,
 ⟨(some 94), none, .app 1 24 (.tmp 91) (.tmp 93)⟩,
 ⟨(some 95), none, .faddr 4 (.tmp 19)⟩,
 ⟨none, none, .store 1 (.tmp 95) (.tmp 94)⟩])
 (.seq (.draw (.step ⟨(some 96), none, .faddr 4 (.tmp 19)⟩ (
 .step ⟨(some 97), none, .load false 1 (.tmp 96)⟩ (
 .step ⟨(some 98), none, .mov (.tmp 11)⟩ (
 .step ⟨(some 100), none, .faddr 4 (.tmp 5)⟩ (
 .step ⟨(some 101), none, .load false 1 (.tmp 100)⟩ (
 .step ⟨(some 102), none, .mov (.tmp 11)⟩ (
 .step ⟨(some 103), none, .iaddr 1 (.tmp 101) (.tmp 102)⟩ (
 .step ⟨(some 104), none, .load false 1 (.tmp 103)⟩ (
 .ev ⟨(some 99), none, .bslice 5 (.agg #[(.int .i64 0), (.int .i64 0), (.int .i64 0), (.int .i64 0), (.int .i64 0)]) 0 []⟩ [⟨(some 104), none, .load false 1 (.tmp 103)⟩, ⟨(some 103), none, .iaddr 1 (.tmp 101) (.tmp 102)⟩, ⟨(some 101), none, .load false 1 (.tmp 100)⟩, ⟨(some 100), none, .faddr 4 (.tmp 5)⟩, ⟨(some 97), none, .load false 1 (.tmp 96)⟩, ⟨(some 96), none, .faddr 4 (.tmp 19)⟩] (
 .ev ⟨(some 105), none, .app 5 40 (.tmp 99) (.tmp 104)⟩ [⟨(some 103), none, .iaddr 1 (.tmp 101) (.tmp 102)⟩, ⟨(some 101), none, .load false 1 (.tmp 100)⟩, ⟨(some 100), none, .faddr 4 (.tmp 5)⟩, ⟨(some 97), none, .load false 1 (.tmp 96)⟩, ⟨(some 96), none, .faddr 4 (.tmp 19)⟩] (
 .step ⟨(some 106), none, .iaddr 1 (.tmp 97) (.tmp 98)⟩ (
 .ev ⟨none, none, .store 1 (.tmp 106) (.tmp 105)⟩ [] (
 .done)
 (.stop)))
 (.stop))
 (.stop)))))))))))
 (.seq (.reg [⟨(some 107), none, .faddr 4 (.tmp 19)⟩,
 ⟨(some 108), none, .load false 1 (.tmp 107)⟩,
 ⟨(some 109), none, .mov (.tmp 11)⟩,
 ⟨(some 110), none, .iaddr 1 (.tmp 108) (.tmp 109)⟩,
 ⟨(some 111), none, .load false 1 (.tmp 110)⟩,
 ⟨(some 112), none, .mov (.tmp 18)⟩,
 ⟨(some 113), none, .iaddr 5 (.tmp 111) (.tmp 112)⟩,
 ⟨(some 20), none, .mov (.tmp 113)⟩])
 (.seq (.draw (.step ⟨(some 114), none, .mov (.tmp 20)⟩ (
 .step ⟨(some 115), none, .mov (.tmp 20)⟩ (
 .step ⟨(some 116), none, .mov (.tmp 20)⟩ (
 .step ⟨(some 117), none, .nilck (.tmp 116)⟩ (
 .step ⟨(some 118), none, .faddr 1 (.tmp 117)⟩ (
 .step ⟨(some 119), none, .faddr 1 (.tmp 118)⟩ (
 .step ⟨(some 120), none, .load false 1 (.tmp 119)⟩ (
 .step ⟨(some 121), none, .mov (.tmp 20)⟩ (
 .step ⟨(some 122), none, .nilck (.tmp 121)⟩ (
 .step ⟨(some 123), none, .faddr 1 (.tmp 122)⟩ (
 .step ⟨(some 124), none, .faddr 0 (.tmp 123)⟩ (
 .step ⟨(some 125), none, .load false 1 (.tmp 124)⟩ (
 .step ⟨(some 126), none, .mov (.tmp 3)⟩ (
 .step ⟨(some 127), none, .conv .i64 (.tmp 126)⟩ (
 .step ⟨(some 128), none, .bin .rem (.tmp 127) (.lit (.int .i64 2))⟩ (
 .step ⟨(some 129), none, .bin .add (.tmp 125) (.tmp 128)⟩ (
 .step ⟨(some 130), none, .mxmn false (.tmp 120) [(.tmp 129)]⟩ (
 .step ⟨(some 131), none, .mov (.tmp 20)⟩ (
 .step ⟨(some 132), none, .nilck (.tmp 131)⟩ (
 .step ⟨(some 133), none, .faddr 3 (.tmp 132)⟩ (
 .step ⟨(some 134), none, .faddr 0 (.tmp 133)⟩ (
 .step ⟨(some 135), none, .load false 1 (.tmp 134)⟩ (
 .step ⟨(some 136), none, .mov (.tmp 20)⟩ (
 .step ⟨(some 137), none, .nilck (.tmp 136)⟩ (
 .step ⟨(some 138), none, .faddr 3 (.tmp 137)⟩ (
 .step ⟨(some 139), none, .faddr 1 (.tmp 138)⟩ (
 .step ⟨(some 140), none, .load false 1 (.tmp 139)⟩ (
 .step ⟨(some 141), none, .mov (.tmp 3)⟩ (
 .step ⟨(some 142), none, .conv .i64 (.tmp 141)⟩ (
 .step ⟨(some 143), none, .bin .quo (.tmp 142) (.lit (.int .i64 2))⟩ (
 .step ⟨(some 144), none, .bin .rem (.tmp 143) (.lit (.int .i64 2))⟩ (
 .step ⟨(some 145), none, .bin .sub (.tmp 140) (.tmp 144)⟩ (
 .step ⟨(some 146), none, .mxmn true (.tmp 135) [(.tmp 145)]⟩ (
 .step ⟨(some 147), none, .nilck (.tmp 114)⟩ (
 .step ⟨(some 148), none, .faddr 1 (.tmp 147)⟩ (
 .step ⟨(some 149), none, .faddr 0 (.tmp 148)⟩ (
 .ev ⟨none, none, .store 1 (.tmp 149) (.tmp 130)⟩ [⟨(some 148), none, .faddr 1 (.tmp 147)⟩, ⟨(some 147), none, .nilck (.tmp 114)⟩, ⟨(some 139), none, .faddr 1 (.tmp 138)⟩, ⟨(some 138), none, .faddr 3 (.tmp 137)⟩, ⟨(some 137), none, .nilck (.tmp 136)⟩, ⟨(some 134), none, .faddr 0 (.tmp 133)⟩, ⟨(some 133), none, .faddr 3 (.tmp 132)⟩, ⟨(some 132), none, .nilck (.tmp 131)⟩] (
 .step ⟨(some 150), none, .nilck (.tmp 115)⟩ (
 .step ⟨(some 151), none, .faddr 3 (.tmp 150)⟩ (
 .step ⟨(some 152), none, .faddr 1 (.tmp 151)⟩ (
 .ev ⟨none, none, .store 1 (.tmp 152) (.tmp 146)⟩ [⟨(some 151), none, .faddr 3 (.tmp 150)⟩, ⟨(some 150), none, .nilck (.tmp 115)⟩] (
 .done)
 (.stop)))))
 (.stop)))))))))))))))))))))))))))))))))))))))
 (.seq (.reg [⟨(some 153), none, .mov (.tmp 13)⟩,
 ⟨(some 154), none, .load true 5 (.tmp 19)⟩,
 ⟨(some 155), none, .bslice 5 (.agg #[(.int .i64 0), (.int .i64 0), (.int .i64 0), (.int .i64 0), (.slice none 0 0)]) 1 [(0, (.tmp 154))]⟩,
 ⟨(some 156), none, .app 5 56 (.tmp 153) (.tmp 155)⟩,
 ⟨(some 13), none, .mov (.tmp 156)⟩])
 (.seq (.reg [⟨(some 157), none, .bslice 1 (.slice none 0 0) 0 []⟩,
 ⟨(some 158), none, .faddr 4 (.tmp 5)⟩,
 ⟨(some 159), none, .load false 1 (.tmp 158)⟩,
 ⟨(some 160), none, .app 1 24 (.tmp 157) (.tmp 159)⟩,
 ⟨(some 161), none, .faddr 4 (.tmp 16)⟩,
 ⟨none, none, .store 1 (.tmp 161) (.tmp 160)⟩])
 (.draw (.step ⟨(some 162), none, .faddr 4 (.tmp 16)⟩ (
 .step ⟨(some 163), none, .load false 1 (.tmp 162)⟩ (
 .step ⟨(some 164), none, .mov (.tmp 11)⟩ (
 .step ⟨(some 165), none, .faddr 4 (.tmp 5)⟩ (
 .step ⟨(some 166), none, .load false 1 (.tmp 165)⟩ (
 .step ⟨(some 167), none, .mov (.tmp 11)⟩ (
 .step ⟨(some 168), none, .iaddr 1 (.tmp 166) (.tmp 167)⟩ (
 .step ⟨(some 169), none, .load false 1 (.tmp 168)⟩ (
 .step ⟨(some 170), none, .mov (.tmp 18)⟩ (
 .step ⟨(some 171), none, .bin .shl (.lit (.int .i64 1)) (.tmp 170)⟩ (
 .ev ⟨(some 172), none, .call (.fn 43) [(.tmp 169), (.tmp 171)]⟩ [⟨(some 168), none, .iaddr 1 (.tmp 166) (.tmp 167)⟩, ⟨(some 166), none, .load false 1 (.tmp 165)⟩, ⟨(some 165), none, .faddr 4 (.tmp 5)⟩, ⟨(some 163), none, .load false 1 (.tmp 162)⟩, ⟨(some 162), none, .faddr 4 (.tmp 16)⟩] (
 .step ⟨(some 173), none, .iaddr 1 (.tmp 163) (.tmp 164)⟩ (
 .ev ⟨none, none, .store 1 (.tmp 173) (.tmp 172)⟩ [] (
 .done)
 (.stop)))
 (.stop)))))))))))))))))))))
 (.skip))))
 (.seq (.seq (.gcp)
 (.reg [⟨(some 175), none, .load true 5 (.tmp 5)⟩,
 ⟨(some 176), none, .mov (.tmp 11)⟩,
 ⟨(some 177), none, .mov (.tmp 12)⟩,
 ⟨(some 178), none, .call (.fn 16) [(.tmp 175), (.tmp 176), (.tmp 177)]⟩,
 ⟨(some 174), none, .mov (.tmp 178)⟩,
 ⟨(some 179), none, .ext (.tmp 174) 0⟩,
 ⟨(some 180), none, .ext (.tmp 174) 1⟩,
 ⟨(some 21), none, .mov (.tmp 179)⟩,
 ⟨(some 22), none, .mov (.tmp 180)⟩]))
 (.seq (.reg [⟨(some 182), none, .load true 5 (.tmp 5)⟩,
 ⟨(some 183), none, .mov (.tmp 11)⟩,
 ⟨(some 184), none, .call (.fn 20) [(.tmp 182), (.tmp 183)]⟩,
 ⟨(some 181), none, .mov (.tmp 184)⟩,
 ⟨(some 185), none, .ext (.tmp 181) 0⟩,
 ⟨(some 186), none, .ext (.tmp 181) 1⟩,
 ⟨(some 23), none, .alloc [(.int .i64 0), (.int .i64 0)]⟩,
 ⟨none, none, .store 2 (.tmp 23) (.tmp 185)⟩,
 ⟨(some 24), none, .mov (.tmp 186)⟩])
 (.seq (.seq (.reg [⟨(some 187), none, .mov (.tmp 22)⟩,
 ⟨(some 188), none, .mov (.tmp 24)⟩,
 ⟨(some 189), none, .bin .neq (.tmp 187) (.tmp 188)⟩])
 (.cond (.tmp 189) (.seq (.reg [⟨(some 10), none, .mov (.lit (.bool false))⟩])
 (.ret))
 (.skip)))
 (.seq (.seq (.reg [⟨(some 190), none, .mov (.tmp 13)⟩,
 ⟨(some 191), none, .len (.tmp 190)⟩,
 ⟨(some 192), none, .mov (.lit (.int .i64 0))⟩])
 (.block 0 (.loop (.seq (.reg [⟨(some 193), none, .bin .lss (.tmp 192) (.tmp 191)⟩])
 (.seq (.cond (.tmp 193) (.skip)
 (.exit 0))
 (.seq (.block 1 (.seq (.reg [⟨(some 194), none, .iaddr 5 (.tmp 190) (.tmp 192)⟩,
 ⟨(some 195), none, .load true 5 (.tmp 194)⟩,
 ⟨(some 26), none, .alloc [(.int .i64 0), (.int .i64 0), (.int .i64 0), (.int .i64 0), (.slice none 0 0)]⟩,
 ⟨none, none, .store 5 (.tmp 26) (.tmp 195)⟩])
 (.seq (.reg [⟨(some 197), none, .load true 5 (.tmp 26)⟩,
 ⟨(some 198), none, .mov (.tmp 11)⟩,
 ⟨(some 199), none, .mov (.tmp 12)⟩,
 ⟨(some 200), none, .call (.fn 16) [(.tmp 197), (.tmp 198), (.tmp 199)]⟩,
 ⟨(some 196), none, .mov (.tmp 200)⟩,
 ⟨(some 201), none, .ext (.tmp 196) 0⟩,
 ⟨(some 202), none, .ext (.tmp 196) 1⟩,
 ⟨(some 27), none, .mov (.tmp 201)⟩,
 ⟨(some 28), none, .mov (.tmp 202)⟩])
 (.seq (.reg [⟨(some 204), none, .load true 5 (.tmp 26)⟩,
 ⟨(some 205), none, .mov (.tmp 11)⟩,
 ⟨(some 206), none, .call (.fn 20) [(.tmp 204), (.tmp 205)]⟩,
 ⟨(some 203), none, .mov (.tmp 206)⟩,
 ⟨(some 207), none, .ext (.tmp 203) 0⟩,
 ⟨(some 208), none, .ext (.tmp 203) 1⟩,
 ⟨(some 29), none, .alloc [(.int .i64 0), (.int .i64 0)]⟩,
 ⟨none, none, .store 2 (.tmp 29) (.tmp 207)⟩,
 ⟨(some 30), none, .mov (.tmp 208)⟩])
 (.seq (.reg [⟨(some 209), none, .mov (.tmp 28)⟩,
 ⟨(some 210), none, .mov (.tmp 30)⟩,
 ⟨(some 211), none, .bin .neq (.tmp 209) (.tmp 210)⟩,
 ⟨(some 212), none, .mov (.tmp 211)⟩,
 ⟨(some 213), (some (212, false)), .mov (.tmp 28)⟩,
 ⟨(some 214), (some (212, false)), .bin .neq (.tmp 213) (.lit (.int .i64 0))⟩,
 ⟨(some 215), (some (212, false)), .mov (.tmp 214)⟩,
 ⟨(some 216), (some (215, true)), .mov (.tmp 28)⟩,
 ⟨(some 217), (some (215, true)), .bin .neq (.tmp 216) (.lit (.int .i64 10))⟩,
 ⟨(some 218), (some (212, false)), .pick (.tmp 215) (.tmp 217) (.lit (.bool false))⟩,
 ⟨(some 219), none, .pick (.tmp 212) (.lit (.bool true)) (.tmp 218)⟩,
 ⟨(some 220), none, .mov (.tmp 219)⟩,
 ⟨(some 221), (some (220, false)), .mov (.tmp 28)⟩,
 ⟨(some 222), (some (220, false)), .bin .eql (.tmp 221) (.lit (.int .i64 0))⟩,
 ⟨(some 223), (some (220, false)), .mov (.tmp 222)⟩,
 ⟨(some 224), (some (223, true)), .mov (.tmp 22)⟩,
 ⟨(some 225), (some (223, true)), .bin .neq (.tmp 224) (.lit (.int .i64 0))⟩,
 ⟨(some 226), (some (223, true)), .mov (.tmp 225)⟩,
 ⟨(some 227), (some (226, false)), .mov (.tmp 27)⟩,
 ⟨(some 228), (some (226, false)), .mov (.tmp 21)⟩,
 ⟨(some 229), (some (226, false)), .bin .andNot (.tmp 227) (.tmp 228)⟩,
 ⟨(some 230), (some (226, false)), .bin .neq (.tmp 229) (.lit (.int .i64 0))⟩,
 ⟨(some 231), (some (223, true)), .pick (.tmp 226) (.lit (.bool true)) (.tmp 230)⟩,
 ⟨(some 232), (some (223, true)), .mov (.tmp 231)⟩,
 ⟨(some 233), (some (232, false)), .faddr 0 (.tmp 29)⟩,
 ⟨(some 234), (some (232, false)), .load false 1 (.tmp 233)⟩,
 ⟨(some 235), (some (232, false)), .faddr 0 (.tmp 23)⟩,
 ⟨(some 236), (some (232, false)), .load false 1 (.tmp 235)⟩,
 ⟨(some 237), (some (232, false)), .bin .lss (.tmp 234) (.tmp 236)⟩,
 ⟨(some 238), (some (223, true)), .pick (.tmp 232) (.lit (.bool true)) (.tmp 237)⟩,
 ⟨(some 239), (some (223, true)), .mov (.tmp 238)⟩,
 ⟨(some 240), (some (239, false)), .faddr 1 (.tmp 29)⟩,
 ⟨(some 241), (some (239, false)), .load false 1 (.tmp 240)⟩,
 ⟨(some 242), (some (239, false)), .faddr 1 (.tmp 23)⟩,
 ⟨(some 243), (some (239, false)), .load false 1 (.tmp 242)⟩,
 ⟨(some 244), (some (239, false)), .bin .gtr (.tmp 241) (.tmp 243)⟩,
 ⟨(some 245), (some (223, true)), .pick (.tmp 239) (.lit (.bool true)) (.tmp 244)⟩,
 ⟨(some 246), (some (220, false)), .pick (.tmp 223) (.tmp 245) (.lit (.bool false))⟩,
 ⟨(some 247), none, .pick (.tmp 220) (.lit (.bool true)) (.tmp 246)⟩])
 (.cond (.tmp 247) (.seq (.reg [⟨(some 10), none, .mov (.lit (.bool false))⟩])
 (.ret))
 (.skip)))))))
 (.reg [⟨(some 248), none, .bin .add (.tmp 192) (.lit (.int .i64 1))⟩,
 ⟨(some 192), none, .mov (.tmp 248)⟩])))))))
 (.seq (.reg [⟨(some 250), none, .load true 5 (.tmp 16)⟩,
 ⟨(some 251), none, .mov (.tmp 11)⟩,
 ⟨(some 252), none, .mov (.tmp 12)⟩,
 ⟨(some 253), none, .call (.fn 16) [(.tmp 250), (.tmp 251), (.tmp 252)]⟩,
 ⟨(some 249), none, .mov (.tmp 253)⟩,
 ⟨(some 254), none, .ext (.tmp 249) 0⟩,
 ⟨(some 255), none, .ext (.tmp 249) 1⟩,
 ⟨(some 31), none, .mov (.tmp 254)⟩,
 ⟨(some 32), none, .mov (.tmp 255)⟩])
 (.seq (.reg [⟨(some 256), none, .mov (.tmp 22)⟩,
 ⟨(some 257), none, .bin .neq (.tmp 256) (.lit (.int .i64 0))⟩,
 ⟨(some 258), none, .mov (.tmp 257)⟩,
 ⟨(some 259), (some (258, false)), .mov (.tmp 32)⟩,
 ⟨(some 260), (some (258, false)), .bin .eql (.tmp 259) (.lit (.int .i64 0))⟩,
 ⟨(some 261), (some (258, false)), .mov (.tmp 260)⟩,
 ⟨(some 262), (some (261, true)), .mov (.tmp 21)⟩,
 ⟨(some 263), (some (261, true)), .mov (.tmp 31)⟩,
 ⟨(some 264), (some (261, true)), .bin .andNot (.tmp 262) (.tmp 263)⟩,
 ⟨(some 265), (some (261, true)), .bin .eql (.tmp 264) (.lit (.int .i64 0))⟩,
 ⟨(some 266), (some (258, false)), .pick (.tmp 261) (.tmp 265) (.lit (.bool false))⟩,
 ⟨(some 267), none, .pick (.tmp 258) (.lit (.bool true)) (.tmp 266)⟩,
 ⟨(some 268), none, .mov (.tmp 267)⟩,
 ⟨(some 269), (some (268, true)), .call (.fn 15) []⟩,
 ⟨(some 270), none, .pick (.tmp 268) (.tmp 269) (.lit (.bool false))⟩,
 ⟨(some 10), none, .mov (.tmp 270)⟩])
 (.ret)))))))))))))
theorem k12 : FnC Tryd.prog 12 271 [] [8, 20] [.tmp 10] c12 5 := ⟨Tryd.f12, _, Tryd.func12, rfl, by decide, rfl, by decide, by kernel_rfl, by kernel_rfl⟩
end Go.Proofs.YtafcdpmcmmfbhaaDoor

/- BoatMore. -/
namespace Go.Proofs.YtafcdpmcmmfbhaaDoor
open Go Go.Ab

theorem _root_.Go.Ab.Sub.gcE {nb : Nat} {s s' : St} (kp lv : List Nat) (h : s.gc kp lv = s') (h1 : gcOK kp s.σ = true) (h2 : keepsBase nb kp = true) : Sub nb s s' := h ▸ Sub.gc kp lv h1 h2
structure LsOK (b : Bo) (n : Nat) (x : Bo) : Prop where
  ok : x.OK
  less : Less x n b n
  len : x.seen.length = b.seen.length
def boT (x : Bo) : T := .agg (bo5 x)
abbrev moS (b : Bo) (n m u v : Nat) (xs : List Bo) : St := { env := [(3, .t (.lit (.int .u8 u))), (4, .t (.lit (.int .u8 v))), (5, .t (.ptr (.agg (bo5 b)) 0)), (11, .t (vi n)), (12, .t (vi m)), (13, .loc 0 xs.length)], σ := [.row 5 ((xs.map boT).map .t)], df := [], k := 0 }
def Mo1 (b : Bo) (n m u v : Nat) (xs : List Bo) (st : St) : Prop := lk st.env 3 = .t (.lit (.int .u8 u)) ∧ lk st.env 4 = .t (.lit (.int .u8 v)) ∧ lk st.env 5 = .t (.ptr (.agg (bo5 b)) 0) ∧ lk st.env 11 = .t (vi n) ∧ lk st.env 12 = .t (vi m) ∧ lk st.env 13 = .loc 0 xs.length ∧ lk st.env 16 = .ptr 1 0 ∧ st.σ = [.row 5 ((xs.map boT).map .t), .cells ((bo5 b).map .t)] ∧ st.df = [] ∧ st.k = 0
def Mo2 (b : Bo) (n m : Nat) (ys : List Bo) (less : Bo) (r : Int × Int) (st : St) : Prop := lk st.env 5 = .t (.ptr (.agg (bo5 b)) 0) ∧ lk st.env 11 = .t (vi n) ∧ lk st.env 12 = .t (vi m) ∧ lk st.env 13 = .t (.slice 5 (ys.map boT)) ∧ lk st.env 16 = .t (.ptr (.agg (bo5 less)) 0) ∧ lk st.env 21 = .t (vi r.1) ∧ lk st.env 22 = .t (vi r.2) ∧ st.σ = [] ∧ st.df = [] ∧ st.k = 0
theorem gc_bo1 {b : Bo} {n k : Nat} {σ : List AO} {F : List Si} {i2 i3 N : Nat} {x1 x2 x3 x4 : T} (h2 : σ[i2]? = some (.row 1 (rowW b n (.loc i3 k)))) (h3 : σ[i3]? = some (.row 5 ((F.map tSi).map .t))) (hk : k = F.length) (hN : N = b.seen.length) : E.gc [] σ 11 (.agg [.t x1, .t x2, .t x3, .t x4, .loc i2 N]) = .t (.agg [x1, x2, x3, x4, .slice 1 ((b.seen.set n F).map tSis)]) := by
  have hg := gc_seen (f := 6) h2 h3 hk hN
  rw [E.gc]
  simp only [List.map_cons, List.map_nil]
  rw [hg]
  rfl
theorem gc_bos {b : Bo} {n k : Nat} {σ : List AO} {F : List Si} {i2 i3 N i M : Nat} {x1 x2 x3 x4 : T} {xs : List T} (h2 : σ[i2]? = some (.row 1 (rowW b n (.loc i3 k)))) (h3 : σ[i3]? = some (.row 5 ((F.map tSi).map .t))) (hk : k = F.length) (hN : N = b.seen.length) (hi : σ[i]? = some (.row 5 (xs.map E.t ++ [.agg [.t x1, .t x2, .t x3, .t x4, .loc i2 N]]))) (hM : M = xs.length + 1) : E.gc [] σ 12 (.loc i M) = .t (.slice 5 (xs ++ [.agg [x1, x2, x3, x4, .slice 1 ((b.seen.set n F).map tSis)]])) := by
  refine gc_locs rfl hi (by simp [hM]) ?_
  rw [List.map_append, gc_row, List.map_cons, List.map_nil, gc_bo1 h2 h3 hk hN, List.map_append]; rfl
theorem gc_boP {b : Bo} {n : Nat} {σ : List AO} {K : List Si} {i j N : Nat} {x1 x2 x3 x4 : T} (hi : σ[i]? = some (.cells [.t x1, .t x2, .t x3, .t x4, .loc j N])) (hj : σ[j]? = some (.row 1 (rowW b n (.t (.slice 5 (K.map tSi)))))) (hN : N = b.seen.length) : E.gc [] σ 12 (.ptr i 0) = .t (.ptr (.agg [x1, x2, x3, x4, .slice 1 ((b.seen.set n K).map tSis)]) 0) := by
  have h1 : E.gc [] σ 11 (.loc j N) = .t (.slice 1 ((b.seen.set n K).map tSis)) := by
    refine gc_loc (n := 9) rfl ?_ (by rw [hN]; simp)
    rw [hj]; unfold rowW; rw [List.map_set, List.map_set]; rfl
  rw [E.gc]
  simp only [hi, pos?, List.map_cons, List.map_nil]
  rw [h1]
  rfl
structure LeOK (b : Bo) (n : Nat) (x : Bo) : Prop where
  ok : x.OK
  less : Less b n x n
  len : x.seen.length = b.seen.length
set_option maxRecDepth 8000 in
set_option maxHeartbeats 8000000 in
theorem BoatMore_ok (b : Bo) (hL : Lens b) (p : Nat) (hp : p < 256) (w : Nat) (hw : w < 256) (u : Nat) (hu : u < 256) (v : Nat) (hv : v < 256) : ACall Tryd.prog 12 [.t (.agg (bo5 b)), .t (.lit (.int .u8 p)), .t (.lit (.int .u8 w)), .t (.lit (.int .u8 u)), .t (.lit (.int .u8 v))] [] (res (.ret (.t (vb true)))) := by
  refine ACall.walk k12 ?_
  have h32 := fine_ok b hL
  unfold c12
  refine awpL_chop 6 (c1 := ?a1) (c2 := ?a2) (fun st => b.OK ∧ ∃ n m xs, n < b.seen.length ∧ m ≤ b.L ∧ xs.length ≤ 1 ∧ (∀ x ∈ xs, LsOK b n x) ∧ Mo1 b n m u v xs st) ?hc ?_ ?_
  case hc => simp only [chop]; rfl
  · unfold bo5 at h32 ⊢
    simp only [go_sem, Nat.reduceEqDiff, Nat.reduceAdd, Nat.reduceSub, Nat.reduceMul, Nat.reduceLT, Nat.reduceLeDiff, Nat.reduceMod, Nat.reduceDiv, Int.reduceToNat, Int.reduceLT, Int.reduceLE, Bool.not_true, Bool.not_false, reduceIte, Int.reduceEq, Int.reduceBEq, Int.reduceBNe, Int.reduceGT, Int.reduceGE, Int.reduceNeg, Int.reduceAdd, Int.reduceSub, Nat.reduceBEq, decide_true, decide_false, undef, beq_self_eq_true, bne_self_eq_false, Bool.and_true, Bool.true_and, Bool.and_false, Bool.false_and, Bool.or_true, Bool.true_or, Bool.or_false, Bool.false_or]
    refine ACallL.quiet1 h32 rfl rfl rfl ?_
    cases hF : fineB b
    · simp only [go_sem, Nat.reduceEqDiff, Nat.reduceAdd, Nat.reduceSub, Nat.reduceMul, Nat.reduceLT, Nat.reduceLeDiff, Nat.reduceMod, Nat.reduceDiv, Int.reduceToNat, Int.reduceLT, Int.reduceLE, Bool.not_true, Bool.not_false, reduceIte, Int.reduceEq, Int.reduceBEq, Int.reduceBNe, Int.reduceGT, Int.reduceGE, Int.reduceNeg, Int.reduceAdd, Int.reduceSub, Nat.reduceBEq, decide_true, decide_false, undef, beq_self_eq_true, bne_self_eq_false, Bool.and_true, Bool.true_and, Bool.and_false, Bool.false_and, Bool.or_true, Bool.true_or, Bool.or_false, Bool.false_or, undef]
      refine ACallL.quiet1 awake_ok rfl rfl rfl ?_
      simp only [go_sem, Nat.reduceEqDiff, Nat.reduceAdd, Nat.reduceSub, Nat.reduceMul, Nat.reduceLT, Nat.reduceLeDiff, Nat.reduceMod, Nat.reduceDiv, Int.reduceToNat, Int.reduceLT, Int.reduceLE, Bool.not_true, Bool.not_false, reduceIte, Int.reduceEq, Int.reduceBEq, Int.reduceBNe, Int.reduceGT, Int.reduceGE, Int.reduceNeg, Int.reduceAdd, Int.reduceSub, Nat.reduceBEq, decide_true, decide_false, undef, beq_self_eq_true, bne_self_eq_false, Bool.and_true, Bool.true_and, Bool.and_false, Bool.false_and, Bool.or_true, Bool.true_or, Bool.or_false, Bool.false_or, undef]
      exact finL_ret [] ⟨rfl, rfl, rfl, rfl, _, rfl, res_mk rfl⟩
    obtain ⟨hok, hb⟩ := fine_iff hF
    have hnh := hb.num
    simp only [go_sem, Nat.reduceEqDiff, Nat.reduceAdd, Nat.reduceSub, Nat.reduceMul, Nat.reduceLT, Nat.reduceLeDiff, Nat.reduceMod, Nat.reduceDiv, Int.reduceToNat, Int.reduceLT, Int.reduceLE, Bool.not_true, Bool.not_false, reduceIte, Int.reduceEq, Int.reduceBEq, Int.reduceBNe, Int.reduceGT, Int.reduceGE, Int.reduceNeg, Int.reduceAdd, Int.reduceSub, Nat.reduceBEq, decide_true, decide_false, undef, beq_self_eq_true, bne_self_eq_false, Bool.and_true, Bool.true_and, Bool.and_false, Bool.false_and, Bool.or_true, Bool.true_or, Bool.or_false, Bool.false_or, undef, List.length_map]
    cases h0 : ((b.seen.length : Int) == 0)
    rotate_left
    · simp only [go_sem, Nat.reduceEqDiff, Nat.reduceAdd, Nat.reduceSub, Nat.reduceMul, Nat.reduceLT, Nat.reduceLeDiff, Nat.reduceMod, Nat.reduceDiv, Int.reduceToNat, Int.reduceLT, Int.reduceLE, Bool.not_true, Bool.not_false, reduceIte, Int.reduceEq, Int.reduceBEq, Int.reduceBNe, Int.reduceGT, Int.reduceGE, Int.reduceNeg, Int.reduceAdd, Int.reduceSub, Nat.reduceBEq, decide_true, decide_false, undef, beq_self_eq_true, bne_self_eq_false, Bool.and_true, Bool.true_and, Bool.and_false, Bool.false_and, Bool.or_true, Bool.true_or, Bool.or_false, Bool.false_or, undef, h0]
      refine ACallL.quiet1 awake_ok rfl rfl rfl ?_
      simp only [go_sem, Nat.reduceEqDiff, Nat.reduceAdd, Nat.reduceSub, Nat.reduceMul, Nat.reduceLT, Nat.reduceLeDiff, Nat.reduceMod, Nat.reduceDiv, Int.reduceToNat, Int.reduceLT, Int.reduceLE, Bool.not_true, Bool.not_false, reduceIte, Int.reduceEq, Int.reduceBEq, Int.reduceBNe, Int.reduceGT, Int.reduceGE, Int.reduceNeg, Int.reduceAdd, Int.reduceSub, Nat.reduceBEq, decide_true, decide_false, undef, beq_self_eq_true, bne_self_eq_false, Bool.and_true, Bool.true_and, Bool.and_false, Bool.false_and, Bool.or_true, Bool.true_or, Bool.or_false, Bool.false_or, undef]
      exact finL_ret [] ⟨rfl, rfl, rfl, rfl, _, rfl, res_mk rfl⟩
    have n0 : ¬ ((b.seen.length : Int) = 0) := by simpa using h0
    have ha : p % b.seen.length < b.seen.length := Nat.mod_lt _ (by omega)
    have hLb := hb.L
    have hDb := hb.D
    have hm : w % (b.L + 1) ≤ b.L := by have := Nat.mod_lt w (show 0 < b.L + 1 by omega); omega
    have hm2 : u % (b.L + 1) ≤ b.L := by have := Nat.mod_lt u (show 0 < b.L + 1 by omega); omega
    have hr : v % b.D < b.D := Nat.mod_lt v (by omega)
    have t1 := mod_nat p b.seen.length
    have t2 := mod_nat w (b.L + 1)
    have t2' := mod_nat u (b.L + 1)
    have t3 := mod_nat v b.D
    have w0 : IntKind.i64.wrap (p : Int) = p := wrap_id (by omega) (by omega)
    have w1 : IntKind.i64.wrap (w : Int) = w := wrap_id (by omega) (by omega)
    have w1' : IntKind.i64.wrap (u : Int) = u := wrap_id (by omega) (by omega)
    have w3 : IntKind.i64.wrap (v : Int) = v := wrap_id (by omega) (by omega)
    have w2 : IntKind.i64.wrap (b.last + 1) = ((b.L + 1 : Nat) : Int) := by rw [wrap_id (by omega) (by omega)]; omega
    have n1 : ¬ (((b.L + 1 : Nat) : Int) = 0) := by omega
    have hdd := hDb.2.2
    have n2 : ¬ ((b.D : Int) = 0) := by omega
    have h41 := held_ok b hb ha (u % (b.L + 1)) (v % b.D) (by omega) (by omega)
    have hhs := fun hI => held_spec hb ha hm2 (r := v % b.D) hI
    generalize p % b.seen.length = n at *
    generalize w % (b.L + 1) = m at *
    generalize u % (b.L + 1) = m2 at *
    generalize v % b.D = r at *
    generalize heldB b n m2 r = x at *
    generalize heldIs b n r = can at *
    simp only [bo5] at h41
    have n2' : ¬ (b.deep = 0) := by omega
    have t3' : (v : Int).tmod b.deep = (r : Int) := by rw [hdd]; exact t3
    simp only [go_sem, Nat.reduceEqDiff, Nat.reduceAdd, Nat.reduceSub, Nat.reduceMul, Nat.reduceLT, Nat.reduceLeDiff, Nat.reduceMod, Nat.reduceDiv, Int.reduceToNat, Int.reduceLT, Int.reduceLE, Bool.not_true, Bool.not_false, reduceIte, Int.reduceEq, Int.reduceBEq, Int.reduceBNe, Int.reduceGT, Int.reduceGE, Int.reduceNeg, Int.reduceAdd, Int.reduceSub, Nat.reduceBEq, decide_true, decide_false, undef, beq_self_eq_true, bne_self_eq_false, Bool.and_true, Bool.true_and, Bool.and_false, Bool.false_and, Bool.or_true, Bool.true_or, Bool.or_false, Bool.false_or, undef, List.length_map, h0, n0, w0, w1, w1', w2, w3, n1, n2', t1, t2, t2', t3']
    refine AndL.mk ?_ ?_
    all_goals
      simp only [go_sem, Nat.reduceEqDiff, Nat.reduceAdd, Nat.reduceSub, Nat.reduceMul, Nat.reduceLT, Nat.reduceLeDiff, Nat.reduceMod, Nat.reduceDiv, Int.reduceToNat, Int.reduceLT, Int.reduceLE, Bool.not_true, Bool.not_false, reduceIte, Int.reduceEq, Int.reduceBEq, Int.reduceBNe, Int.reduceGT, Int.reduceGE, Int.reduceNeg, Int.reduceAdd, Int.reduceSub, Nat.reduceBEq, decide_true, decide_false, undef, beq_self_eq_true, bne_self_eq_false, Bool.and_true, Bool.true_and, Bool.and_false, Bool.false_and, Bool.or_true, Bool.true_or, Bool.or_false, Bool.false_or, undef, List.length_map, h0, n0, w0, w1, w1', w2, w3, n1, n2', t1, t2, t2', t3']
      refine ACallL.fresh1 h41 rfl ?_
      cases can
      · simp only [go_sem, Nat.reduceEqDiff, Nat.reduceAdd, Nat.reduceSub, Nat.reduceMul, Nat.reduceLT, Nat.reduceLeDiff, Nat.reduceMod, Nat.reduceDiv, Int.reduceToNat, Int.reduceLT, Int.reduceLE, Bool.not_true, Bool.not_false, reduceIte, Int.reduceEq, Int.reduceBEq, Int.reduceBNe, Int.reduceGT, Int.reduceGE, Int.reduceNeg, Int.reduceAdd, Int.reduceSub, Nat.reduceBEq, decide_true, decide_false, undef, beq_self_eq_true, bne_self_eq_false, Bool.and_true, Bool.true_and, Bool.and_false, Bool.false_and, Bool.or_true, Bool.true_or, Bool.or_false, Bool.false_or, undef]
        refine awpL_gcpS (s' := moS b n m u v []) (Sub.trans (Sub.ghost 13 5 (by decide) rfl) (Sub.gcE [2] [3, 4, 5, 11, 12, 13] (St.gc_mk rfl rfl rfl rfl) rfl rfl)) ?_
        simp only [go_sem, Nat.reduceEqDiff, Nat.reduceAdd, Nat.reduceSub, Nat.reduceMul, Nat.reduceLT, Nat.reduceLeDiff, Nat.reduceMod, Nat.reduceDiv, Int.reduceToNat, Int.reduceLT, Int.reduceLE, Bool.not_true, Bool.not_false, reduceIte, Int.reduceEq, Int.reduceBEq, Int.reduceBNe, Int.reduceGT, Int.reduceGE, Int.reduceNeg, Int.reduceAdd, Int.reduceSub, Nat.reduceBEq, decide_true, decide_false, undef, beq_self_eq_true, bne_self_eq_false, Bool.and_true, Bool.true_and, Bool.and_false, Bool.false_and, Bool.or_true, Bool.true_or, Bool.or_false, Bool.false_or, undef]
        exact ⟨hb, n, m, [], ha, hm, by simp, by simp, rfl, rfl, rfl, rfl, rfl, rfl, rfl, rfl, rfl, rfl⟩
      · simp only [go_sem, Nat.reduceEqDiff, Nat.reduceAdd, Nat.reduceSub, Nat.reduceMul, Nat.reduceLT, Nat.reduceLeDiff, Nat.reduceMod, Nat.reduceDiv, Int.reduceToNat, Int.reduceLT, Int.reduceLE, Bool.not_true, Bool.not_false, reduceIte, Int.reduceEq, Int.reduceBEq, Int.reduceBNe, Int.reduceGT, Int.reduceGE, Int.reduceNeg, Int.reduceAdd, Int.reduceSub, Nat.reduceBEq, decide_true, decide_false, undef, beq_self_eq_true, bne_self_eq_false, Bool.and_true, Bool.true_and, Bool.and_false, Bool.false_and, Bool.or_true, Bool.true_or, Bool.or_false, Bool.false_or, undef]
        refine ⟨by decide, ?_⟩
        refine awpL_gcpS (s' := moS b n m u v [x]) (Sub.gcE [3] [3, 4, 5, 11, 12, 13] (St.gc_mk rfl rfl rfl rfl) rfl rfl) ?_
        simp only [go_sem, Nat.reduceEqDiff, Nat.reduceAdd, Nat.reduceSub, Nat.reduceMul, Nat.reduceLT, Nat.reduceLeDiff, Nat.reduceMod, Nat.reduceDiv, Int.reduceToNat, Int.reduceLT, Int.reduceLE, Bool.not_true, Bool.not_false, reduceIte, Int.reduceEq, Int.reduceBEq, Int.reduceBNe, Int.reduceGT, Int.reduceGE, Int.reduceNeg, Int.reduceAdd, Int.reduceSub, Nat.reduceBEq, decide_true, decide_false, undef, beq_self_eq_true, bne_self_eq_false, Bool.and_true, Bool.true_and, Bool.and_false, Bool.false_and, Bool.or_true, Bool.true_or, Bool.or_false, Bool.false_or, undef]
        refine ⟨hb, n, m, [x], ha, hm, by simp, fun y hy => ?_, rfl, rfl, rfl, rfl, rfl, rfl, rfl, rfl, rfl, rfl⟩
        rw [List.mem_singleton] at hy
        subst hy
        have H := hhs rfl
        exact ⟨H.ok, H.less, H.len⟩
  clear h32
  rintro ⟨env, σ, df, k⟩ ⟨hb, n, m, xs, hn, hm, hxs, hall, q3, q4, q5, q11, q12, q13, q16, hσ, hdf, hk⟩
  simp only at q3 q4 q5 q11 q12 q13 q16 hσ hdf hk
  subst hσ hdf hk
  have hLb := hb.L
  have h5 := hb.lens _ (seenOf_mem hn)
  have h4 := hb.num
  have hs := seenOf_at hn
  have hnl : (n : Int) < b.seen.length := by omega
  have hw0 := fun (w : Nat) (h : w < 32) => without_spec hb w hn
  have hn0 := fun (k : Nat) (s : Si) (h : (seenOf b n)[k]? = some s) => nar_spec hb (u := u) hn h
  generalize hl : seenOf b n = l at *
  refine awpL_chop 2 (c1 := ?d1) (c2 := ?d2) (fun st => ∃ ys : List Bo, ∃ less : Bo, ys.length ≤ 2 ∧ (∀ x ∈ ys, LsOK b n x) ∧ LeOK b n less ∧ Mo2 b n m ys less (specCan b n m) st) ?hc3 ?_ ?_
  case hc3 => simp only [chop]; rfl
  · have h16 := Can_ok b hL n m
    generalize specCan b n m = r at *
    obtain ⟨ra, rb⟩ := r
    simp only [oneE, bo5] at h16
    simp only [bo5, tSis, go_sem, Nat.reduceEqDiff, Nat.reduceAdd, Nat.reduceSub, Nat.reduceMul, Nat.reduceLT, Nat.reduceLeDiff, Nat.reduceMod, Nat.reduceDiv, Int.reduceToNat, Int.reduceLT, Int.reduceLE, Bool.not_true, Bool.not_false, reduceIte, Int.reduceEq, Int.reduceBEq, Int.reduceBNe, Int.reduceGT, Int.reduceGE, Int.reduceNeg, Int.reduceAdd, Int.reduceSub, Nat.reduceBEq, decide_true, decide_false, undef, beq_self_eq_true, bne_self_eq_false, Bool.and_true, Bool.true_and, Bool.and_false, Bool.false_and, Bool.or_true, Bool.true_or, Bool.or_false, Bool.false_or, undef, q3, q4, q5, q11, q12, q13, q16, List.length_map, List.getElem?_map, hs, Option.map_some, hnl]
    cases h0 : decide ((l.length : Int) > 0)
    · simp only [bo5, tSis, go_sem, Nat.reduceEqDiff, Nat.reduceAdd, Nat.reduceSub, Nat.reduceMul, Nat.reduceLT, Nat.reduceLeDiff, Nat.reduceMod, Nat.reduceDiv, Int.reduceToNat, Int.reduceLT, Int.reduceLE, Bool.not_true, Bool.not_false, reduceIte, Int.reduceEq, Int.reduceBEq, Int.reduceBNe, Int.reduceGT, Int.reduceGE, Int.reduceNeg, Int.reduceAdd, Int.reduceSub, Nat.reduceBEq, decide_true, decide_false, undef, beq_self_eq_true, bne_self_eq_false, Bool.and_true, Bool.true_and, Bool.and_false, Bool.false_and, Bool.or_true, Bool.true_or, Bool.or_false, Bool.false_or, undef, q3, q4, q5, q11, q12, q13, q16, List.length_map, List.getElem?_map, hs, Option.map_some, hnl, h0]
      refine awpL_gcpS (s' := { env := [(5, .t (.ptr (.agg (bo5 b)) 0)), (11, .t (vi n)), (12, .t (vi m)), (13, .t (.slice 5 (xs.map boT))), (16, .t (.ptr (.agg (bo5 b)) 0))], σ := [], df := [], k := 0 }) (Sub.gcE [] [5, 11, 12, 13, 16] (St.gc_mk (by simp only [List.map_cons, List.map_nil, lk, Nat.reduceEqDiff, reduceIte, q3, q4, q5, q11, q12, q13, q16]; rw [gc_loc (n := 10) (es := 5) (xs := xs.map boT) rfl rfl (by simp)]; rfl) rfl rfl rfl) rfl rfl) ?_
      simp only [bo5, go_sem, Nat.reduceEqDiff, Nat.reduceAdd, Nat.reduceSub, Nat.reduceMul, Nat.reduceLT, Nat.reduceLeDiff, Nat.reduceMod, Nat.reduceDiv, Int.reduceToNat, Int.reduceLT, Int.reduceLE, Bool.not_true, Bool.not_false, reduceIte, Int.reduceEq, Int.reduceBEq, Int.reduceBNe, Int.reduceGT, Int.reduceGE, Int.reduceNeg, Int.reduceAdd, Int.reduceSub, Nat.reduceBEq, decide_true, decide_false, undef, beq_self_eq_true, bne_self_eq_false, Bool.and_true, Bool.true_and, Bool.and_false, Bool.false_and, Bool.or_true, Bool.true_or, Bool.or_false, Bool.false_or, undef]
      refine ACallL.quiet1 h16 rfl rfl rfl ?_
      simp only [go_sem, Nat.reduceEqDiff, Nat.reduceAdd, Nat.reduceSub, Nat.reduceMul, Nat.reduceLT, Nat.reduceLeDiff, Nat.reduceMod, Nat.reduceDiv, Int.reduceToNat, Int.reduceLT, Int.reduceLE, Bool.not_true, Bool.not_false, reduceIte, Int.reduceEq, Int.reduceBEq, Int.reduceBNe, Int.reduceGT, Int.reduceGE, Int.reduceNeg, Int.reduceAdd, Int.reduceSub, Nat.reduceBEq, decide_true, decide_false, undef, beq_self_eq_true, bne_self_eq_false, Bool.and_true, Bool.true_and, Bool.and_false, Bool.false_and, Bool.or_true, Bool.true_or, Bool.or_false, Bool.false_or, undef]
      exact ⟨xs, b, by omega, hall, ⟨hb, Less.refl b n, rfl⟩, rfl, rfl, rfl, rfl, rfl, rfl, rfl, rfl, rfl, rfl⟩
    · have hl0 : 0 < l.length := by have := of_decide_eq_true h0; omega
      have hk : v % l.length < l.length := Nat.mod_lt _ hl0
      have t1 := mod_nat v l.length
      have n0 : ¬ ((l.length : Int) = 0) := by omega
      have w0 : IntKind.i64.wrap (v : Int) = v := wrap_id (by omega) (by omega)
      have w1 : IntKind.i64.wrap (u : Int) = u := wrap_id (by omega) (by omega)
      have hs2 : l[v % l.length]? = some l[v % l.length] := List.getElem?_eq_getElem hk
      generalize l[v % l.length] = x at *
      generalize v % l.length = k at *
      have hp2 : 2 ^ k < 32 := Nat.lt_of_lt_of_le (Nat.pow_lt_pow_right (by decide) (show k < 5 by omega)) (by decide)
      have sk := shl_one (i := k) (by omega)
      have h43 := without_ok l (Nat.le_trans h5 (by decide)) (2 ^ k) (by omega)
      obtain ⟨y1, y2⟩ := hw0 (2 ^ k) hp2
      obtain ⟨z1, z2⟩ := hn0 k x hs2
      have hkl : (k : Int) < l.length := by omega
      have hk0 : ((k : Int) < 0) = False := by simp
      have hset : ((b.seen.map tSis).map E.t).set n = fun e => rowW b n e := rfl
      have r1 := fun e => rowW_get hn e
      have r2 := fun e e' => show (rowW b n e).set n e' = rowW b n e' by unfold rowW; rw [List.set_set]
      have r3 := fun e => rowW_len b n e
      have hxO := hb.si (seenOf_mem hn) (List.mem_of_getElem? (hl.symm ▸ hs2))
      obtain ⟨x1, x2, x3, x4, x5⟩ := x
      have t2 : (u : Int).tmod 2 = ((u % 2 : Nat) : Int) := mod_nat u 2
      have t3 : (u : Int).tdiv 2 = ((u / 2 : Nat) : Int) := by rw [Int.tdiv_eq_ediv_of_nonneg (by omega)]; rfl
      have t4 : ((u / 2 : Nat) : Int).tmod 2 = ((u / 2 % 2 : Nat) : Int) := mod_nat _ 2
      have w2 : IntKind.i64.wrap ((u / 2 : Nat) : Int) = ((u / 2 : Nat) : Int) := wrap_id (by omega) (by omega)
      have hW := hb.wide
      have hD := hb.deep
      have o1 := hxO.col
      have o2 := hxO.row
      simp only at o1 o2
      have w3 : IntKind.i64.wrap (x2 + ((u % 2 : Nat) : Int)) = x2 + ((u % 2 : Nat) : Int) := wrap_id (by omega) (by omega)
      have w4 : IntKind.i64.wrap (x5 - ((u / 2 % 2 : Nat) : Int)) = x5 - ((u / 2 % 2 : Nat) : Int) := wrap_id (by omega) (by omega)
      have rk := fun e : E => show (((l.map tSi).map E.t).set k e)[k]? = some e from List.getElem?_set_self (by simpa using hk)
      simp only [tSis] at h43
      simp only [bo5, tSis, rk, List.length_set, List.set_set, go_sem, Nat.reduceEqDiff, Nat.reduceAdd, Nat.reduceSub, Nat.reduceMul, Nat.reduceLT, Nat.reduceLeDiff, Nat.reduceMod, Nat.reduceDiv, Int.reduceToNat, Int.reduceLT, Int.reduceLE, Bool.not_true, Bool.not_false, reduceIte, Int.reduceEq, Int.reduceBEq, Int.reduceBNe, Int.reduceGT, Int.reduceGE, Int.reduceNeg, Int.reduceAdd, Int.reduceSub, Nat.reduceBEq, decide_true, decide_false, undef, beq_self_eq_true, bne_self_eq_false, Bool.and_true, Bool.true_and, Bool.and_false, Bool.false_and, Bool.or_true, Bool.true_or, Bool.or_false, Bool.false_or, undef, q3, q4, q5, q11, q12, q13, q16, List.length_map, List.getElem?_map, hs, Option.map_some, hnl, h0, t1, n0, w0, w1, hs2, hkl, hk0, tSi, sk, r1, r2, r3, hset, t2, t3, t4, w2, w3, w4]
      refine ⟨⟨Nat.le_trans (show _ ≤ 5 by omega) (by decide), by omega⟩, ⟨Nat.le_trans (show _ ≤ 5 by omega) (by decide), by omega⟩, ⟨Nat.le_trans (show _ ≤ 5 by omega) (by decide), by omega⟩, ⟨Nat.le_trans (show _ ≤ 5 by omega) (by decide), by omega⟩, ?_⟩
      refine ACallL.fresh1 h43 rfl ?_
      have hN : narS ⟨x1, x2, x3, x4, x5⟩ u = ⟨x1, min x3 (x2 + ((u % 2 : Nat) : Int)), x3, x4, max x4 (x5 - ((u / 2 % 2 : Nat) : Int))⟩ := rfl
      generalize narS ⟨x1, x2, x3, x4, x5⟩ u = nx at *
      generalize kept l (2 ^ k) l.length = kl at *
      have hrow : (((l.map tSi).map E.t).set k (.t (.agg [vi x1, vi (min x3 (x2 + ((u % 2 : Nat) : Int))), vi x3, vi x4, vi (max x4 (x5 - ((u / 2 % 2 : Nat) : Int)))]))) = (((l.set k nx).map tSi).map E.t) := by
        rw [List.map_set, List.map_set, hN]; rfl
      have hlen : (l.set k nx).length = l.length := List.length_set ..
      simp only [bo5, tSis, go_sem, Nat.reduceEqDiff, Nat.reduceAdd, Nat.reduceSub, Nat.reduceMul, Nat.reduceLT, Nat.reduceLeDiff, Nat.reduceMod, Nat.reduceDiv, Int.reduceToNat, Int.reduceLT, Int.reduceLE, Bool.not_true, Bool.not_false, reduceIte, Int.reduceEq, Int.reduceBEq, Int.reduceBNe, Int.reduceGT, Int.reduceGE, Int.reduceNeg, Int.reduceAdd, Int.reduceSub, Nat.reduceBEq, decide_true, decide_false, undef, beq_self_eq_true, bne_self_eq_false, Bool.and_true, Bool.true_and, Bool.and_false, Bool.false_and, Bool.or_true, Bool.true_or, Bool.or_false, Bool.false_or, undef, q3, q4, q5, q11, q12, q13, q16, List.length_map, List.getElem?_map, hs, Option.map_some, hnl, r1, r2, r3, hrow]
      refine awpL_gcpS (s' := { env := [(5, .t (.ptr (.agg (bo5 b)) 0)), (11, .t (vi n)), (12, .t (vi m)), (13, .t (.slice 5 ((xs ++ [withS b (b.seen.set n (l.set k nx))]).map boT))), (16, .t (.ptr (.agg (bo5 (withS b (b.seen.set n kl)))) 0))], σ := [], df := [], k := 0 }) (Sub.gcE [] [5, 11, 12, 13, 16] (St.gc_mk ?_ rfl rfl rfl) rfl rfl) ?_
      · simp only [List.map_cons, List.map_nil, lk, Nat.reduceEqDiff, reduceIte, q3, q4, q5, q11, q12, q13, q16]
        rw [gc_bos (b := b) (n := n) (k := l.length) (F := l.set k nx) (i2 := 3) (i3 := 4) (N := b.seen.length) (xs := xs.map boT) rfl rfl hlen.symm rfl rfl (by simp), gc_boP (b := b) (n := n) (K := kl) (j := 6) rfl rfl rfl, List.map_append]
        rfl
      · simp only [bo5, go_sem, Nat.reduceEqDiff, Nat.reduceAdd, Nat.reduceSub, Nat.reduceMul, Nat.reduceLT, Nat.reduceLeDiff, Nat.reduceMod, Nat.reduceDiv, Int.reduceToNat, Int.reduceLT, Int.reduceLE, Bool.not_true, Bool.not_false, reduceIte, Int.reduceEq, Int.reduceBEq, Int.reduceBNe, Int.reduceGT, Int.reduceGE, Int.reduceNeg, Int.reduceAdd, Int.reduceSub, Nat.reduceBEq, decide_true, decide_false, undef, beq_self_eq_true, bne_self_eq_false, Bool.and_true, Bool.true_and, Bool.and_false, Bool.false_and, Bool.or_true, Bool.true_or, Bool.or_false, Bool.false_or, undef]
        refine ACallL.quiet1 h16 rfl rfl rfl ?_
        simp only [go_sem, Nat.reduceEqDiff, Nat.reduceAdd, Nat.reduceSub, Nat.reduceMul, Nat.reduceLT, Nat.reduceLeDiff, Nat.reduceMod, Nat.reduceDiv, Int.reduceToNat, Int.reduceLT, Int.reduceLE, Bool.not_true, Bool.not_false, reduceIte, Int.reduceEq, Int.reduceBEq, Int.reduceBNe, Int.reduceGT, Int.reduceGE, Int.reduceNeg, Int.reduceAdd, Int.reduceSub, Nat.reduceBEq, decide_true, decide_false, undef, beq_self_eq_true, bne_self_eq_false, Bool.and_true, Bool.true_and, Bool.and_false, Bool.false_and, Bool.or_true, Bool.true_or, Bool.or_false, Bool.false_or, undef]
        refine ⟨xs ++ [withS b (b.seen.set n (l.set k nx))], withS b (b.seen.set n kl), by simp; omega, fun x hx => ?_, ⟨y1, y2, List.length_set ..⟩, rfl, rfl, rfl, rfl, rfl, rfl, rfl, rfl, rfl, rfl⟩
        rcases List.mem_append.1 hx with hx | hx
        · exact hall x hx
        · rw [List.mem_singleton] at hx
          subst hx
          exact ⟨z1, z2, List.length_set ..⟩
  clear q3 q4 q5 q11 q12 q13 q16 hall hw0 hn0
  rintro ⟨env, σ, df, k⟩ ⟨ys, less, hys, hall, hle, q5, q11, q12, q13, q16, q21, q22, hσ, hdf, hk⟩
  simp only at q5 q11 q12 q13 q16 q21 q22 hσ hdf hk
  subst hσ hdf hk
  have hLens : ∀ x : Bo, x.OK → Lens x := fun x hx => ⟨Nat.lt_of_le_of_lt hx.num (by decide), fun l hl => Nat.lt_of_le_of_lt (hx.lens l hl) (by decide)⟩
  have h20 := Nearest_ok b hL n
  rw [specNearest_ok hb hn] at h20
  rw [specCan_ok ((b.ok_iff).2 hb) hn hm hb] at q21 q22
  have hcb : canM b n m < 9223372036854775808 := Nat.lt_of_lt_of_le (canM_lt hb n m) (by decide)
  have hit : ∀ j (hj : j < ys.length), ∃ y, ys[j]? = some y ∧ LsOK b n y ∧ (isT y n = true → isT b n = true ∧ (∀ p, (canM y n m).testBit p = true → (canM b n m).testBit p = true) ∧ loR b (nearAll b n) ≤ loR y (nearAll y n) ∧ nearHi y n ≤ nearHi b n) := fun j hj => by
    have e := List.getElem?_eq_getElem hj
    have H := hall _ (List.mem_of_getElem? e)
    exact ⟨_, e, H, fun hy => ⟨H.less.told H.ok hb hy, H.less.at' H.ok hb (by rw [← H.less.L]; exact hm), H.less.lo H.ok hb hy, H.less.hi H.ok hb⟩⟩
  have h16l := Can_ok less (hLens _ hle.ok) n m
  rw [specCan_ok ((less.ok_iff).2 hle.ok) (by rw [hle.len]; exact hn) (by rw [hle.less.L]; exact hm) hle.ok] at h16l
  have hcl : canM less n m < 9223372036854775808 := Nat.lt_of_lt_of_le (canM_lt hle.ok n m) (by decide)
  have hlt := hle.less.told hb hle.ok
  have hla := hle.less.at' hb hle.ok hm
  unfold canN at q21 h16l
  unfold nearS at h20
  generalize hcm : canM b n m = C at *
  generalize canM less n m = C' at *
  generalize loR b (nearAll b n) = lo at *
  generalize nearHi b n = hi at *
  generalize hit' : isT b n = is at *
  generalize isT less n = is' at *
  simp only [spanE, oneE, tSp, bo5] at h20 h16l
  obtain ⟨s1, s2, hs12⟩ : ∃ s1 s2 : Int, (if is = true then (((lo : Int), (hi : Int)), (0 : Int)) else ((0, 0), 10)) = ((s1, s2), if is = true then 0 else 10) := by cases is <;> exact ⟨_, _, rfl⟩
  rw [hs12] at h20
  simp only at h20 q21 q22
  simp only [bo5, go_sem, Nat.reduceEqDiff, Nat.reduceAdd, Nat.reduceSub, Nat.reduceMul, Nat.reduceLT, Nat.reduceLeDiff, Nat.reduceMod, Nat.reduceDiv, Int.reduceToNat, Int.reduceLT, Int.reduceLE, Bool.not_true, Bool.not_false, reduceIte, Int.reduceEq, Int.reduceBEq, Int.reduceBNe, Int.reduceGT, Int.reduceGE, Int.reduceNeg, Int.reduceAdd, Int.reduceSub, Nat.reduceBEq, decide_true, decide_false, undef, beq_self_eq_true, bne_self_eq_false, Bool.and_true, Bool.true_and, Bool.and_false, Bool.false_and, Bool.or_true, Bool.true_or, Bool.or_false, Bool.false_or, undef, q5, q11, q12, q13, q16, q21, q22]
  refine ACallL.quiet1 h20 rfl rfl rfl ?_
  simp only [bo5, go_sem, Nat.reduceEqDiff, Nat.reduceAdd, Nat.reduceSub, Nat.reduceMul, Nat.reduceLT, Nat.reduceLeDiff, Nat.reduceMod, Nat.reduceDiv, Int.reduceToNat, Int.reduceLT, Int.reduceLE, Bool.not_true, Bool.not_false, reduceIte, Int.reduceEq, Int.reduceBEq, Int.reduceBNe, Int.reduceGT, Int.reduceGE, Int.reduceNeg, Int.reduceAdd, Int.reduceSub, Nat.reduceBEq, decide_true, decide_false, undef, beq_self_eq_true, bne_self_eq_false, Bool.and_true, Bool.true_and, Bool.and_false, Bool.false_and, Bool.or_true, Bool.true_or, Bool.or_false, Bool.false_or, undef, q5, q11, q12, q13, q16, q21, q22, List.length_map]
  refine awpL_for (i := 192) (L := 191) ys.length (fun j st => st = { env := [(192, .t (vi j)), (191, .t (vi ys.length)), (190, .t (.slice 5 (ys.map boT))), (11, .t (vi n)), (12, .t (vi m)), (16, .t (.ptr (.agg (bo5 less)) 0)), (21, .t (vi ((if is then C else 0 : Nat)))), (22, .t (vi (if is then 0 else 10))), (23, .ptr 0 0)], σ := [.cells [.t (vi s1), .t (vi s2)]] }) ?_ ⟨_, Sub.gc [0] [192, 191, 190, 11, 12, 16, 21, 22, 23] rfl rfl, ?_⟩ ?_ ?_
  · rintro k st rfl; exact ⟨rfl, rfl⟩
  · exact St.gc_mk (by simp only [List.map_cons, List.map_nil, lk, Nat.reduceEqDiff, reduceIte, q5, q11, q12, q13, q16, q21, q22]; rfl) rfl rfl rfl
  · rintro j st hj rfl
    obtain ⟨y, hy, H, hy2⟩ := hit j hj
    have hwj : IntKind.i64.wrap ((j : Int) + 1) = ((j + 1 : Nat) : Int) := by rw [wrap_id (by omega) (by omega)]; omega
    have h16y := Can_ok y (hLens _ H.ok) n m
    rw [specCan_ok ((y.ok_iff).2 H.ok) (by rw [H.len]; exact hn) (by rw [← H.less.L]; exact hm) H.ok] at h16y
    have h20y := Nearest_ok y (hLens _ H.ok) n
    rw [specNearest_ok H.ok (by rw [H.len]; exact hn)] at h20y
    have hcy : canM y n m < 9223372036854775808 := Nat.lt_of_lt_of_le (canM_lt H.ok n m) (by decide)
    unfold canN at h16y
    unfold nearS at h20y
    generalize canM y n m = Cy at *
    generalize loR y (nearAll y n) = ly at *
    generalize nearHi y n = hy' at *
    generalize isT y n = iy at *
    simp only [spanE, oneE, tSp, bo5] at h20y h16y
    simp only [boT, bo5, go_sem, Nat.reduceEqDiff, Nat.reduceAdd, Nat.reduceSub, Nat.reduceMul, Nat.reduceLT, Nat.reduceLeDiff, Nat.reduceMod, Nat.reduceDiv, Int.reduceToNat, Int.reduceLT, Int.reduceLE, Bool.not_true, Bool.not_false, reduceIte, Int.reduceEq, Int.reduceBEq, Int.reduceBNe, Int.reduceGT, Int.reduceGE, Int.reduceNeg, Int.reduceAdd, Int.reduceSub, Nat.reduceBEq, decide_true, decide_false, undef, beq_self_eq_true, bne_self_eq_false, Bool.and_true, Bool.true_and, Bool.and_false, Bool.false_and, Bool.or_true, Bool.true_or, Bool.or_false, Bool.false_or, undef, List.length_map, List.getElem?_map, hy, Option.map_some, hwj]
    cases iy
    · simp only [Bool.false_eq_true, if_false] at h16y h20y
      refine ACallL.quiet1 h16y rfl rfl rfl ?_
      simp only [boT, bo5, go_sem, Nat.reduceEqDiff, Nat.reduceAdd, Nat.reduceSub, Nat.reduceMul, Nat.reduceLT, Nat.reduceLeDiff, Nat.reduceMod, Nat.reduceDiv, Int.reduceToNat, Int.reduceLT, Int.reduceLE, Bool.not_true, Bool.not_false, reduceIte, Int.reduceEq, Int.reduceBEq, Int.reduceBNe, Int.reduceGT, Int.reduceGE, Int.reduceNeg, Int.reduceAdd, Int.reduceSub, Nat.reduceBEq, decide_true, decide_false, undef, beq_self_eq_true, bne_self_eq_false, Bool.and_true, Bool.true_and, Bool.and_false, Bool.false_and, Bool.or_true, Bool.true_or, Bool.or_false, Bool.false_or, undef, List.length_map, List.getElem?_map, hy, Option.map_some, hwj]
      refine ACallL.quiet1 h20y rfl rfl rfl ?_
      simp only [boT, bo5, go_sem, Nat.reduceEqDiff, Nat.reduceAdd, Nat.reduceSub, Nat.reduceMul, Nat.reduceLT, Nat.reduceLeDiff, Nat.reduceMod, Nat.reduceDiv, Int.reduceToNat, Int.reduceLT, Int.reduceLE, Bool.not_true, Bool.not_false, reduceIte, Int.reduceEq, Int.reduceBEq, Int.reduceBNe, Int.reduceGT, Int.reduceGE, Int.reduceNeg, Int.reduceAdd, Int.reduceSub, Nat.reduceBEq, decide_true, decide_false, undef, beq_self_eq_true, bne_self_eq_false, Bool.and_true, Bool.true_and, Bool.and_false, Bool.false_and, Bool.or_true, Bool.true_or, Bool.or_false, Bool.false_or, undef, List.length_map, List.getElem?_map, hy, Option.map_some, hwj]
      exact ⟨_, Sub.gc [0] [192, 191, 190, 11, 12, 16, 21, 22, 23] rfl rfl, rfl⟩
    · obtain ⟨e1, e2, e3, e4⟩ := hy2 rfl
      subst e1
      simp only [if_true] at h16y h20y hs12
      cases hs12
      have g1 : (bits .andNot .i64 (Cy : Int) (C : Int) == 0) = true := sub_andNot hcy hcb e2
      have g1' : (bits .andNot .i64 (Cy : Int) (C : Int) != 0) = false := by rw [bne, g1]; rfl
      have g2 : decide ((ly : Int) < (lo : Int)) = false := decide_eq_false (by omega)
      have g3 : decide ((hy' : Int) > (hi : Int)) = false := decide_eq_false (by omega)
      refine ACallL.quiet1 h16y rfl rfl rfl ?_
      simp only [boT, bo5, go_sem, Nat.reduceEqDiff, Nat.reduceAdd, Nat.reduceSub, Nat.reduceMul, Nat.reduceLT, Nat.reduceLeDiff, Nat.reduceMod, Nat.reduceDiv, Int.reduceToNat, Int.reduceLT, Int.reduceLE, Bool.not_true, Bool.not_false, reduceIte, Int.reduceEq, Int.reduceBEq, Int.reduceBNe, Int.reduceGT, Int.reduceGE, Int.reduceNeg, Int.reduceAdd, Int.reduceSub, Nat.reduceBEq, decide_true, decide_false, undef, beq_self_eq_true, bne_self_eq_false, Bool.and_true, Bool.true_and, Bool.and_false, Bool.false_and, Bool.or_true, Bool.true_or, Bool.or_false, Bool.false_or, undef, List.length_map, List.getElem?_map, hy, Option.map_some, hwj, if_true]
      refine ACallL.quiet1 h20y rfl rfl rfl ?_
      simp only [boT, bo5, go_sem, Nat.reduceEqDiff, Nat.reduceAdd, Nat.reduceSub, Nat.reduceMul, Nat.reduceLT, Nat.reduceLeDiff, Nat.reduceMod, Nat.reduceDiv, Int.reduceToNat, Int.reduceLT, Int.reduceLE, Bool.not_true, Bool.not_false, reduceIte, Int.reduceEq, Int.reduceBEq, Int.reduceBNe, Int.reduceGT, Int.reduceGE, Int.reduceNeg, Int.reduceAdd, Int.reduceSub, Nat.reduceBEq, decide_true, decide_false, undef, beq_self_eq_true, bne_self_eq_false, Bool.and_true, Bool.true_and, Bool.and_false, Bool.false_and, Bool.or_true, Bool.true_or, Bool.or_false, Bool.false_or, undef, List.length_map, List.getElem?_map, hy, Option.map_some, hwj, g1', g2, g3, if_true]
      exact ⟨_, Sub.gc [0] [192, 191, 190, 11, 12, 16, 21, 22, 23] rfl rfl, rfl⟩
  · rintro st rfl
    simp only [boT, bo5, go_sem, Nat.reduceEqDiff, Nat.reduceAdd, Nat.reduceSub, Nat.reduceMul, Nat.reduceLT, Nat.reduceLeDiff, Nat.reduceMod, Nat.reduceDiv, Int.reduceToNat, Int.reduceLT, Int.reduceLE, Bool.not_true, Bool.not_false, reduceIte, Int.reduceEq, Int.reduceBEq, Int.reduceBNe, Int.reduceGT, Int.reduceGE, Int.reduceNeg, Int.reduceAdd, Int.reduceSub, Nat.reduceBEq, decide_true, decide_false, undef, beq_self_eq_true, bne_self_eq_false, Bool.and_true, Bool.true_and, Bool.and_false, Bool.false_and, Bool.or_true, Bool.true_or, Bool.or_false, Bool.false_or, undef]
    refine ACallL.quiet1 h16l rfl rfl rfl ?_
    cases is
    · simp only [boT, bo5, go_sem, Nat.reduceEqDiff, Nat.reduceAdd, Nat.reduceSub, Nat.reduceMul, Nat.reduceLT, Nat.reduceLeDiff, Nat.reduceMod, Nat.reduceDiv, Int.reduceToNat, Int.reduceLT, Int.reduceLE, Bool.not_true, Bool.not_false, reduceIte, Int.reduceEq, Int.reduceBEq, Int.reduceBNe, Int.reduceGT, Int.reduceGE, Int.reduceNeg, Int.reduceAdd, Int.reduceSub, Nat.reduceBEq, decide_true, decide_false, undef, beq_self_eq_true, bne_self_eq_false, Bool.and_true, Bool.true_and, Bool.and_false, Bool.false_and, Bool.or_true, Bool.true_or, Bool.or_false, Bool.false_or, undef]
      refine ACallL.quiet1 awake_ok rfl rfl rfl ?_
      simp only [go_sem, Nat.reduceEqDiff, Nat.reduceAdd, Nat.reduceSub, Nat.reduceMul, Nat.reduceLT, Nat.reduceLeDiff, Nat.reduceMod, Nat.reduceDiv, Int.reduceToNat, Int.reduceLT, Int.reduceLE, Bool.not_true, Bool.not_false, reduceIte, Int.reduceEq, Int.reduceBEq, Int.reduceBNe, Int.reduceGT, Int.reduceGE, Int.reduceNeg, Int.reduceAdd, Int.reduceSub, Nat.reduceBEq, decide_true, decide_false, undef, beq_self_eq_true, bne_self_eq_false, Bool.and_true, Bool.true_and, Bool.and_false, Bool.false_and, Bool.or_true, Bool.true_or, Bool.or_false, Bool.false_or, undef]
      exact finL_ret [] ⟨rfl, rfl, rfl, rfl, _, rfl, res_mk rfl⟩
    · have e := hlt rfl
      subst e
      have g1 : (bits .andNot .i64 (C : Int) (C' : Int) == 0) = true := sub_andNot hcb hcl hla
      simp only [boT, bo5, go_sem, Nat.reduceEqDiff, Nat.reduceAdd, Nat.reduceSub, Nat.reduceMul, Nat.reduceLT, Nat.reduceLeDiff, Nat.reduceMod, Nat.reduceDiv, Int.reduceToNat, Int.reduceLT, Int.reduceLE, Bool.not_true, Bool.not_false, reduceIte, Int.reduceEq, Int.reduceBEq, Int.reduceBNe, Int.reduceGT, Int.reduceGE, Int.reduceNeg, Int.reduceAdd, Int.reduceSub, Nat.reduceBEq, decide_true, decide_false, undef, beq_self_eq_true, bne_self_eq_false, Bool.and_true, Bool.true_and, Bool.and_false, Bool.false_and, Bool.or_true, Bool.true_or, Bool.or_false, Bool.false_or, undef, g1, if_true]
      refine ACallL.quiet1 awake_ok rfl rfl rfl ?_
      simp only [go_sem, Nat.reduceEqDiff, Nat.reduceAdd, Nat.reduceSub, Nat.reduceMul, Nat.reduceLT, Nat.reduceLeDiff, Nat.reduceMod, Nat.reduceDiv, Int.reduceToNat, Int.reduceLT, Int.reduceLE, Bool.not_true, Bool.not_false, reduceIte, Int.reduceEq, Int.reduceBEq, Int.reduceBNe, Int.reduceGT, Int.reduceGE, Int.reduceNeg, Int.reduceAdd, Int.reduceSub, Nat.reduceBEq, decide_true, decide_false, undef, beq_self_eq_true, bne_self_eq_false, Bool.and_true, Bool.true_and, Bool.and_false, Bool.false_and, Bool.or_true, Bool.true_or, Bool.or_false, Bool.false_or, undef]
      exact finL_ret [] ⟨rfl, rfl, rfl, rfl, _, rfl, res_mk rfl⟩
end Go.Proofs.YtafcdpmcmmfbhaaDoor
