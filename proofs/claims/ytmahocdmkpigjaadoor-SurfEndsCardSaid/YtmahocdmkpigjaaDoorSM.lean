/- Proved here: laws that the statements need (SuC38, SuY1, SuY2). No conditions but those that each law states. -/
import Derived.Test.YtmahocdmkpigjaaDoorFL
import Derived.Test.YtmahocdmkpigjaaDoorProg
import Derived.Test.YtmahocdmkpigjaaDoorSJ

set_option linter.unusedSimpArgs false
set_option linter.unusedVariables false

/- Compiled code of functions, printed by program; each is checked to be the program's. No conditions. -/
namespace Go.Proofs.YtmahocdmkpigjaaDoor
open Go Go.Ab
/-- dipworks/dipworkslaw04.SurfEnds -/
def c8 : AC :=
 .seq (.reg [⟨(some 2), none, .box (.tmp 0)⟩,
 ⟨(some 4), none, .mov (.lit (.bool false))⟩])
 (.seq (.seq (.reg [⟨(some 31), none, .load true 5 (.tmp 2)⟩,
 ⟨(some 32), none, .call (.fn 33) [(.tmp 31)]⟩,
 ⟨(some 33), none, .un .not (.tmp 32)⟩,
 ⟨(some 34), none, .mov (.tmp 33)⟩,
 ⟨(some 35), (some (34, false)), .faddr 4 (.tmp 2)⟩,
 ⟨(some 36), (some (34, false)), .load false 1 (.tmp 35)⟩,
 ⟨(some 37), (some (34, false)), .len (.tmp 36)⟩,
 ⟨(some 38), (some (34, false)), .bin .eql (.tmp 37) (.lit (.int .i64 0))⟩,
 ⟨(some 39), none, .pick (.tmp 34) (.lit (.bool true)) (.tmp 38)⟩])
 (.cond (.tmp 39) (.seq (.reg [⟨(some 40), none, .call (.fn 14) []⟩,
 ⟨(some 4), none, .mov (.tmp 40)⟩])
 (.ret))
 (.skip)))
 (.seq (.reg [⟨(some 41), none, .faddr 2 (.tmp 2)⟩,
 ⟨(some 42), none, .load false 1 (.tmp 41)⟩,
 ⟨(some 43), none, .len (.tmp 42)⟩,
 ⟨(some 44), none, .mxmn false (.lit (.int .i64 3)) [(.tmp 43)]⟩,
 ⟨(some 5), none, .mov (.tmp 44)⟩,
 ⟨(some 6), none, .mov (.lit (.int .i64 1))⟩])
 (.seq (.seq (.reg [⟨(some 45), none, .mov (.tmp 5)⟩,
 ⟨(some 46), none, .mov (.lit (.int .i64 0))⟩])
 (.block 0 (.loop (.seq (.reg [⟨(some 47), none, .bin .lss (.tmp 46) (.tmp 45)⟩])
 (.seq (.cond (.tmp 47) (.skip)
 (.exit 0))
 (.seq (.block 1 (.seq (.reg [⟨(some 48), none, .mov (.tmp 46)⟩,
 ⟨(some 7), none, .mov (.tmp 48)⟩])
 (.draw (.step ⟨(some 49), none, .mov (.tmp 6)⟩ (
 .step ⟨(some 50), none, .faddr 2 (.tmp 2)⟩ (
 .step ⟨(some 51), none, .load false 1 (.tmp 50)⟩ (
 .step ⟨(some 52), none, .mov (.tmp 7)⟩ (
 .step ⟨(some 53), none, .iaddr 2 (.tmp 51) (.tmp 52)⟩ (
 .step ⟨(some 54), none, .faddr 1 (.tmp 53)⟩ (
 .step ⟨(some 55), none, .load false 1 (.tmp 54)⟩ (
 .step ⟨(some 56), none, .faddr 2 (.tmp 2)⟩ (
 .step ⟨(some 57), none, .load false 1 (.tmp 56)⟩ (
 .step ⟨(some 58), none, .mov (.tmp 7)⟩ (
 .step ⟨(some 59), none, .iaddr 2 (.tmp 57) (.tmp 58)⟩ (
 .step ⟨(some 60), none, .faddr 0 (.tmp 59)⟩ (
 .step ⟨(some 61), none, .load false 1 (.tmp 60)⟩ (
 .step ⟨(some 62), none, .bin .sub (.tmp 55) (.tmp 61)⟩ (
 .step ⟨(some 63), none, .bin .add (.tmp 62) (.lit (.int .i64 1))⟩ (
 .step ⟨(some 64), none, .faddr 3 (.tmp 2)⟩ (
 .step ⟨(some 65), none, .load false 1 (.tmp 64)⟩ (
 .step ⟨(some 66), none, .mov (.tmp 7)⟩ (
 .step ⟨(some 67), none, .iaddr 2 (.tmp 65) (.tmp 66)⟩ (
 .step ⟨(some 68), none, .faddr 1 (.tmp 67)⟩ (
 .step ⟨(some 69), none, .load false 1 (.tmp 68)⟩ (
 .step ⟨(some 70), none, .faddr 3 (.tmp 2)⟩ (
 .step ⟨(some 71), none, .load false 1 (.tmp 70)⟩ (
 .step ⟨(some 72), none, .mov (.tmp 7)⟩ (
 .step ⟨(some 73), none, .iaddr 2 (.tmp 71) (.tmp 72)⟩ (
 .step ⟨(some 74), none, .faddr 0 (.tmp 73)⟩ (
 .step ⟨(some 75), none, .load false 1 (.tmp 74)⟩ (
 .step ⟨(some 76), none, .bin .sub (.tmp 69) (.tmp 75)⟩ (
 .step ⟨(some 77), none, .bin .add (.tmp 76) (.lit (.int .i64 1))⟩ (
 .step ⟨(some 78), none, .bin .mul (.tmp 63) (.tmp 77)⟩ (
 .step ⟨(some 79), none, .bin .mul (.tmp 49) (.tmp 78)⟩ (
 .step ⟨(some 6), none, .mov (.tmp 79)⟩ (
 .done))))))))))))))))))))))))))))))))))))
 (.reg [⟨(some 80), none, .bin .add (.tmp 46) (.lit (.int .i64 1))⟩,
 ⟨(some 46), none, .mov (.tmp 80)⟩])))))))
 (.seq (.seq (.reg [⟨(some 81), none, .mov (.tmp 6)⟩,
 ⟨(some 82), none, .bin .gtr (.tmp 81) (.lit (.int .i64 700))⟩])
 (.cond (.tmp 82) (.seq (.reg [⟨(some 83), none, .call (.fn 14) []⟩,
 ⟨(some 4), none, .mov (.tmp 83)⟩])
 (.ret))
 (.skip)))
 (.seq (.reg [⟨(some 84), none, .mov (.tmp 1)⟩,
 ⟨(some 85), none, .conv .i64 (.tmp 84)⟩,
 ⟨(some 86), none, .faddr 4 (.tmp 2)⟩,
 ⟨(some 87), none, .load false 1 (.tmp 86)⟩,
 ⟨(some 88), none, .len (.tmp 87)⟩,
 ⟨(some 89), none, .bin .rem (.tmp 85) (.tmp 88)⟩,
 ⟨(some 8), none, .mov (.tmp 89)⟩])
 (.seq (.reg [⟨(some 9), none, .alloc [(.int .i64 0), (.int .i64 0), (.int .i64 0)]⟩])
 (.seq (.reg [⟨(some 10), none, .alloc [(.bool false), (.bool false), (.bool false)]⟩])
 (.seq (.reg [⟨(some 11), none, .mov (.lit (.int .i64 0))⟩,
 ⟨(some 12), none, .mov (.lit (.int .i64 0))⟩])
 (.seq (.seq (.reg [⟨(some 90), none, .mov (.tmp 6)⟩,
 ⟨(some 91), none, .mov (.lit (.int .i64 0))⟩])
 (.block 2 (.loop (.seq (.reg [⟨(some 92), none, .bin .lss (.tmp 91) (.tmp 90)⟩])
 (.seq (.cond (.tmp 92) (.skip)
 (.exit 2))
 (.seq (.block 3 (.seq (.reg [⟨(some 93), none, .mov (.tmp 91)⟩,
 ⟨(some 13), none, .mov (.tmp 93)⟩])
 (.seq (.reg [⟨(some 14), none, .mov (.lit (.slice none 0 0))⟩,
 ⟨(some 15), none, .mov (.lit (.slice none 0 0))⟩])
 (.seq (.seq (.reg [⟨(some 94), none, .mov (.tmp 5)⟩,
 ⟨(some 95), none, .mov (.lit (.int .i64 0))⟩])
 (.block 4 (.loop (.seq (.reg [⟨(some 96), none, .bin .lss (.tmp 95) (.tmp 94)⟩])
 (.seq (.cond (.tmp 96) (.skip)
 (.exit 4))
 (.seq (.block 5 (.seq (.reg [⟨(some 97), none, .mov (.tmp 95)⟩,
 ⟨(some 16), none, .mov (.tmp 97)⟩])
 (.seq (.draw (.step ⟨(some 98), none, .faddr 2 (.tmp 2)⟩ (
 .step ⟨(some 99), none, .load false 1 (.tmp 98)⟩ (
 .step ⟨(some 100), none, .mov (.tmp 16)⟩ (
 .step ⟨(some 101), none, .iaddr 2 (.tmp 99) (.tmp 100)⟩ (
 .step ⟨(some 102), none, .load true 2 (.tmp 101)⟩ (
 .step ⟨(some 103), none, .faddr 3 (.tmp 2)⟩ (
 .step ⟨(some 104), none, .load false 1 (.tmp 103)⟩ (
 .step ⟨(some 105), none, .mov (.tmp 16)⟩ (
 .step ⟨(some 106), none, .iaddr 2 (.tmp 104) (.tmp 105)⟩ (
 .step ⟨(some 107), none, .load true 2 (.tmp 106)⟩ (
 .ev ⟨(some 17), none, .alloc [(.int .i64 0), (.int .i64 0)]⟩ [⟨(some 107), none, .load true 2 (.tmp 106)⟩, ⟨(some 106), none, .iaddr 2 (.tmp 104) (.tmp 105)⟩, ⟨(some 104), none, .load false 1 (.tmp 103)⟩, ⟨(some 103), none, .faddr 3 (.tmp 2)⟩, ⟨(some 102), none, .load true 2 (.tmp 101)⟩, ⟨(some 101), none, .iaddr 2 (.tmp 99) (.tmp 100)⟩, ⟨(some 99), none, .load false 1 (.tmp 98)⟩, ⟨(some 98), none, .faddr 2 (.tmp 2)⟩] (
 .ev ⟨(some 18), none, .alloc [(.int .i64 0), (.int .i64 0)]⟩ [⟨(some 107), none, .load true 2 (.tmp 106)⟩, ⟨(some 106), none, .iaddr 2 (.tmp 104) (.tmp 105)⟩, ⟨(some 104), none, .load false 1 (.tmp 103)⟩, ⟨(some 103), none, .faddr 3 (.tmp 2)⟩, ⟨(some 102), none, .load true 2 (.tmp 101)⟩, ⟨(some 101), none, .iaddr 2 (.tmp 99) (.tmp 100)⟩, ⟨(some 99), none, .load false 1 (.tmp 98)⟩, ⟨(some 98), none, .faddr 2 (.tmp 2)⟩] (
 .ev ⟨none, none, .store 2 (.tmp 17) (.tmp 102)⟩ [⟨(some 107), none, .load true 2 (.tmp 106)⟩, ⟨(some 106), none, .iaddr 2 (.tmp 104) (.tmp 105)⟩, ⟨(some 104), none, .load false 1 (.tmp 103)⟩, ⟨(some 103), none, .faddr 3 (.tmp 2)⟩] (
 .ev ⟨none, none, .store 2 (.tmp 18) (.tmp 107)⟩ [] (
 .done)
 (.stop))
 (.stop))
 (.stop))
 (.ev ⟨(some 18), none, .alloc [(.int .i64 0), (.int .i64 0)]⟩ [⟨(some 107), none, .load true 2 (.tmp 106)⟩, ⟨(some 106), none, .iaddr 2 (.tmp 104) (.tmp 105)⟩, ⟨(some 104), none, .load false 1 (.tmp 103)⟩, ⟨(some 103), none, .faddr 3 (.tmp 2)⟩, ⟨(some 102), none, .load true 2 (.tmp 101)⟩, ⟨(some 101), none, .iaddr 2 (.tmp 99) (.tmp 100)⟩, ⟨(some 99), none, .load false 1 (.tmp 98)⟩, ⟨(some 98), none, .faddr 2 (.tmp 2)⟩] (
 .ev ⟨(some 17), none, .alloc [(.int .i64 0), (.int .i64 0)]⟩ [⟨(some 107), none, .load true 2 (.tmp 106)⟩, ⟨(some 106), none, .iaddr 2 (.tmp 104) (.tmp 105)⟩, ⟨(some 104), none, .load false 1 (.tmp 103)⟩, ⟨(some 103), none, .faddr 3 (.tmp 2)⟩, ⟨(some 102), none, .load true 2 (.tmp 101)⟩, ⟨(some 101), none, .iaddr 2 (.tmp 99) (.tmp 100)⟩, ⟨(some 99), none, .load false 1 (.tmp 98)⟩, ⟨(some 98), none, .faddr 2 (.tmp 2)⟩] (
 .ev ⟨none, none, .store 2 (.tmp 17) (.tmp 102)⟩ [⟨(some 107), none, .load true 2 (.tmp 106)⟩, ⟨(some 106), none, .iaddr 2 (.tmp 104) (.tmp 105)⟩, ⟨(some 104), none, .load false 1 (.tmp 103)⟩, ⟨(some 103), none, .faddr 3 (.tmp 2)⟩] (
 .ev ⟨none, none, .store 2 (.tmp 18) (.tmp 107)⟩ [] (
 .done)
 (.stop))
 (.stop))
 (.stop))
 (.stop))))))))))))))
 (.seq (.draw (.step ⟨(some 108), none, .mov (.tmp 14)⟩ (
 .step ⟨(some 109), none, .faddr 0 (.tmp 17)⟩ (
 .step ⟨(some 110), none, .load false 1 (.tmp 109)⟩ (
 .step ⟨(some 111), none, .mov (.tmp 13)⟩ (
 .step ⟨(some 112), none, .faddr 1 (.tmp 17)⟩ (
 .step ⟨(some 113), none, .load false 1 (.tmp 112)⟩ (
 .step ⟨(some 114), none, .faddr 0 (.tmp 17)⟩ (
 .step ⟨(some 115), none, .load false 1 (.tmp 114)⟩ (
 .step ⟨(some 116), none, .bin .sub (.tmp 113) (.tmp 115)⟩ (
 .step ⟨(some 117), none, .bin .add (.tmp 116) (.lit (.int .i64 1))⟩ (
 .step ⟨(some 118), none, .bin .rem (.tmp 111) (.tmp 117)⟩ (
 .step ⟨(some 119), none, .bin .add (.tmp 110) (.tmp 118)⟩ (
 .step ⟨(some 122), none, .mov (.tmp 13)⟩ (
 .step ⟨(some 123), none, .faddr 1 (.tmp 17)⟩ (
 .step ⟨(some 124), none, .load false 1 (.tmp 123)⟩ (
 .step ⟨(some 125), none, .faddr 0 (.tmp 17)⟩ (
 .step ⟨(some 126), none, .load false 1 (.tmp 125)⟩ (
 .step ⟨(some 127), none, .bin .sub (.tmp 124) (.tmp 126)⟩ (
 .step ⟨(some 128), none, .bin .add (.tmp 127) (.lit (.int .i64 1))⟩ (
 .step ⟨(some 129), none, .bin .quo (.tmp 122) (.tmp 128)⟩ (
 .ev ⟨(some 120), none, .bslice 1 (.int .i64 0) 1 [(0, (.tmp 119))]⟩ [⟨(some 126), none, .load false 1 (.tmp 125)⟩, ⟨(some 125), none, .faddr 0 (.tmp 17)⟩, ⟨(some 124), none, .load false 1 (.tmp 123)⟩, ⟨(some 123), none, .faddr 1 (.tmp 17)⟩, ⟨(some 115), none, .load false 1 (.tmp 114)⟩, ⟨(some 114), none, .faddr 0 (.tmp 17)⟩, ⟨(some 113), none, .load false 1 (.tmp 112)⟩, ⟨(some 112), none, .faddr 1 (.tmp 17)⟩, ⟨(some 110), none, .load false 1 (.tmp 109)⟩, ⟨(some 109), none, .faddr 0 (.tmp 17)⟩] (
 .ev ⟨(some 121), none, .app 1 8 (.tmp 108) (.tmp 120)⟩ [⟨(some 126), none, .load false 1 (.tmp 125)⟩, ⟨(some 125), none, .faddr 0 (.tmp 17)⟩, ⟨(some 124), none, .load false 1 (.tmp 123)⟩, ⟨(some 123), none, .faddr 1 (.tmp 17)⟩, ⟨(some 115), none, .load false 1 (.tmp 114)⟩, ⟨(some 114), none, .faddr 0 (.tmp 17)⟩, ⟨(some 113), none, .load false 1 (.tmp 112)⟩, ⟨(some 112), none, .faddr 1 (.tmp 17)⟩, ⟨(some 110), none, .load false 1 (.tmp 109)⟩, ⟨(some 109), none, .faddr 0 (.tmp 17)⟩] (
 .step ⟨(some 14), none, .mov (.tmp 121)⟩ (
 .step ⟨(some 13), none, .mov (.tmp 129)⟩ (
 .done)))
 (.stop))
 (.stop)))))))))))))))))))))))
 (.draw (.step ⟨(some 130), none, .mov (.tmp 15)⟩ (
 .step ⟨(some 131), none, .faddr 0 (.tmp 18)⟩ (
 .step ⟨(some 132), none, .load false 1 (.tmp 131)⟩ (
 .step ⟨(some 133), none, .mov (.tmp 13)⟩ (
 .step ⟨(some 134), none, .faddr 1 (.tmp 18)⟩ (
 .step ⟨(some 135), none, .load false 1 (.tmp 134)⟩ (
 .step ⟨(some 136), none, .faddr 0 (.tmp 18)⟩ (
 .step ⟨(some 137), none, .load false 1 (.tmp 136)⟩ (
 .step ⟨(some 138), none, .bin .sub (.tmp 135) (.tmp 137)⟩ (
 .step ⟨(some 139), none, .bin .add (.tmp 138) (.lit (.int .i64 1))⟩ (
 .step ⟨(some 140), none, .bin .rem (.tmp 133) (.tmp 139)⟩ (
 .step ⟨(some 141), none, .bin .add (.tmp 132) (.tmp 140)⟩ (
 .step ⟨(some 144), none, .mov (.tmp 13)⟩ (
 .step ⟨(some 145), none, .faddr 1 (.tmp 18)⟩ (
 .step ⟨(some 146), none, .load false 1 (.tmp 145)⟩ (
 .step ⟨(some 147), none, .faddr 0 (.tmp 18)⟩ (
 .step ⟨(some 148), none, .load false 1 (.tmp 147)⟩ (
 .step ⟨(some 149), none, .bin .sub (.tmp 146) (.tmp 148)⟩ (
 .step ⟨(some 150), none, .bin .add (.tmp 149) (.lit (.int .i64 1))⟩ (
 .step ⟨(some 151), none, .bin .quo (.tmp 144) (.tmp 150)⟩ (
 .ev ⟨(some 142), none, .bslice 1 (.int .i64 0) 1 [(0, (.tmp 141))]⟩ [⟨(some 148), none, .load false 1 (.tmp 147)⟩, ⟨(some 147), none, .faddr 0 (.tmp 18)⟩, ⟨(some 146), none, .load false 1 (.tmp 145)⟩, ⟨(some 145), none, .faddr 1 (.tmp 18)⟩, ⟨(some 137), none, .load false 1 (.tmp 136)⟩, ⟨(some 136), none, .faddr 0 (.tmp 18)⟩, ⟨(some 135), none, .load false 1 (.tmp 134)⟩, ⟨(some 134), none, .faddr 1 (.tmp 18)⟩, ⟨(some 132), none, .load false 1 (.tmp 131)⟩, ⟨(some 131), none, .faddr 0 (.tmp 18)⟩] (
 .ev ⟨(some 143), none, .app 1 8 (.tmp 130) (.tmp 142)⟩ [⟨(some 148), none, .load false 1 (.tmp 147)⟩, ⟨(some 147), none, .faddr 0 (.tmp 18)⟩, ⟨(some 146), none, .load false 1 (.tmp 145)⟩, ⟨(some 145), none, .faddr 1 (.tmp 18)⟩, ⟨(some 137), none, .load false 1 (.tmp 136)⟩, ⟨(some 136), none, .faddr 0 (.tmp 18)⟩, ⟨(some 135), none, .load false 1 (.tmp 134)⟩, ⟨(some 134), none, .faddr 1 (.tmp 18)⟩, ⟨(some 132), none, .load false 1 (.tmp 131)⟩, ⟨(some 131), none, .faddr 0 (.tmp 18)⟩] (
 .step ⟨(some 15), none, .mov (.tmp 143)⟩ (
 .step ⟨(some 13), none, .mov (.tmp 151)⟩ (
 .done)))
 (.stop))
 (.stop)))))))))))))))))))))))))))
 (.reg [⟨(some 152), none, .bin .add (.tmp 95) (.lit (.int .i64 1))⟩,
 ⟨(some 95), none, .mov (.tmp 152)⟩])))))))
 (.seq (.seq (.gcp)
 (.draw (.step ⟨(some 154), none, .load true 5 (.tmp 2)⟩ (
 .step ⟨(some 155), none, .faddr 4 (.tmp 2)⟩ (
 .step ⟨(some 156), none, .load false 1 (.tmp 155)⟩ (
 .step ⟨(some 157), none, .mov (.tmp 8)⟩ (
 .step ⟨(some 158), none, .iaddr 3 (.tmp 156) (.tmp 157)⟩ (
 .step ⟨(some 159), none, .load true 3 (.tmp 158)⟩ (
 .step ⟨(some 160), none, .mov (.tmp 14)⟩ (
 .step ⟨(some 161), none, .mov (.tmp 15)⟩ (
 .ev ⟨(some 162), none, .call (.fn 35) [(.tmp 154), (.tmp 159), (.tmp 160), (.tmp 161)]⟩ [⟨(some 158), none, .iaddr 3 (.tmp 156) (.tmp 157)⟩, ⟨(some 156), none, .load false 1 (.tmp 155)⟩, ⟨(some 155), none, .faddr 4 (.tmp 2)⟩] (
 .step ⟨(some 153), none, .mov (.tmp 162)⟩ (
 .step ⟨(some 163), none, .ext (.tmp 153) 0⟩ (
 .step ⟨(some 164), none, .ext (.tmp 153) 1⟩ (
 .step ⟨(some 19), none, .mov (.tmp 163)⟩ (
 .step ⟨(some 20), none, .mov (.tmp 164)⟩ (
 .done))))))
 (.stop))))))))))))
 (.seq (.reg [⟨(some 165), none, .mov (.tmp 19)⟩,
 ⟨(some 166), none, .len (.tmp 165)⟩,
 ⟨(some 167), none, .mov (.lit (.int .i64 0))⟩])
 (.block 6 (.loop (.seq (.reg [⟨(some 168), none, .bin .lss (.tmp 167) (.tmp 166)⟩])
 (.seq (.cond (.tmp 168) (.skip)
 (.exit 6))
 (.seq (.block 7 (.seq (.reg [⟨(some 169), none, .mov (.tmp 167)⟩,
 ⟨(some 170), none, .iaddr 1 (.tmp 165) (.tmp 167)⟩,
 ⟨(some 171), none, .load false 1 (.tmp 170)⟩,
 ⟨(some 21), none, .mov (.tmp 169)⟩,
 ⟨(some 22), none, .mov (.tmp 171)⟩])
 (.seq (.seq (.reg [⟨(some 172), none, .mov (.tmp 22)⟩,
 ⟨(some 173), none, .bin .lss (.tmp 172) (.lit (.int .i64 0))⟩])
 (.cond (.tmp 173) (.reg [⟨(some 174), none, .mov (.tmp 21)⟩,
 ⟨(some 175), none, .iaddrA 3 1 (.tmp 10) (.tmp 174)⟩,
 ⟨none, none, .store 1 (.tmp 175) (.lit (.bool true))⟩])
 (.draw (.step ⟨(some 176), none, .mov (.tmp 21)⟩ (
 .step ⟨(some 177), none, .iaddrA 3 1 (.tmp 9) (.tmp 176)⟩ (
 .step ⟨(some 178), none, .load false 1 (.tmp 177)⟩ (
 .step ⟨(some 179), none, .mov (.tmp 22)⟩ (
 .step ⟨(some 180), none, .bin .shl (.lit (.int .i64 1)) (.tmp 179)⟩ (
 .step ⟨(some 181), none, .bin .or (.tmp 178) (.tmp 180)⟩ (
 .step ⟨(some 182), none, .iaddrA 3 1 (.tmp 9) (.tmp 176)⟩ (
 .ev ⟨none, none, .store 1 (.tmp 182) (.tmp 181)⟩ [] (
 .done)
 (.stop))))))))))))
 (.seq (.reg [⟨(some 183), none, .mov (.tmp 20)⟩,
 ⟨(some 184), none, .mov (.tmp 21)⟩,
 ⟨(some 185), none, .iaddr 1 (.tmp 183) (.tmp 184)⟩,
 ⟨(some 186), none, .load false 1 (.tmp 185)⟩])
 (.cond (.tmp 186) (.reg [⟨(some 187), none, .mov (.tmp 11)⟩,
 ⟨(some 188), none, .mov (.tmp 21)⟩,
 ⟨(some 189), none, .bin .shl (.lit (.int .i64 1)) (.tmp 188)⟩,
 ⟨(some 190), none, .bin .or (.tmp 187) (.tmp 189)⟩,
 ⟨(some 11), none, .mov (.tmp 190)⟩])
 (.reg [⟨(some 191), none, .mov (.tmp 12)⟩,
 ⟨(some 192), none, .mov (.tmp 21)⟩,
 ⟨(some 193), none, .bin .shl (.lit (.int .i64 1)) (.tmp 192)⟩,
 ⟨(some 194), none, .bin .or (.tmp 191) (.tmp 193)⟩,
 ⟨(some 12), none, .mov (.tmp 194)⟩]))))))
 (.reg [⟨(some 195), none, .bin .add (.tmp 167) (.lit (.int .i64 1))⟩,
 ⟨(some 167), none, .mov (.tmp 195)⟩]))))))))))))
 (.reg [⟨(some 196), none, .bin .add (.tmp 91) (.lit (.int .i64 1))⟩,
 ⟨(some 91), none, .mov (.tmp 196)⟩])))))))
 (.seq (.reg [⟨(some 198), none, .load true 5 (.tmp 2)⟩,
 ⟨(some 199), none, .mov (.tmp 8)⟩,
 ⟨(some 200), none, .call (.fn 19) [(.tmp 198), (.tmp 199)]⟩,
 ⟨(some 197), none, .mov (.tmp 200)⟩,
 ⟨(some 201), none, .ext (.tmp 197) 0⟩,
 ⟨(some 202), none, .ext (.tmp 197) 1⟩,
 ⟨(some 203), none, .ext (.tmp 197) 2⟩,
 ⟨(some 23), none, .mov (.tmp 201)⟩,
 ⟨(some 24), none, .mov (.tmp 202)⟩,
 ⟨(some 25), none, .mov (.tmp 203)⟩])
 (.seq (.reg [⟨(some 204), none, .mov (.tmp 5)⟩,
 ⟨(some 205), none, .bin .shl (.lit (.int .i64 1)) (.tmp 204)⟩,
 ⟨(some 206), none, .bin .sub (.tmp 205) (.lit (.int .i64 1))⟩,
 ⟨(some 26), none, .mov (.tmp 206)⟩])
 (.seq (.seq (.reg [⟨(some 207), none, .mov (.tmp 25)⟩,
 ⟨(some 208), none, .bin .neq (.tmp 207) (.lit (.int .i64 0))⟩,
 ⟨(some 209), none, .mov (.tmp 208)⟩,
 ⟨(some 210), (some (209, false)), .mov (.tmp 24)⟩,
 ⟨(some 211), (some (209, false)), .mov (.tmp 26)⟩,
 ⟨(some 212), (some (209, false)), .bin .and (.tmp 210) (.tmp 211)⟩,
 ⟨(some 213), (some (209, false)), .mov (.tmp 11)⟩,
 ⟨(some 214), (some (209, false)), .bin .neq (.tmp 212) (.tmp 213)⟩,
 ⟨(some 215), none, .pick (.tmp 209) (.lit (.bool true)) (.tmp 214)⟩,
 ⟨(some 216), none, .mov (.tmp 215)⟩,
 ⟨(some 217), (some (216, false)), .mov (.tmp 23)⟩,
 ⟨(some 218), (some (216, false)), .mov (.tmp 26)⟩,
 ⟨(some 219), (some (216, false)), .bin .and (.tmp 217) (.tmp 218)⟩,
 ⟨(some 220), (some (216, false)), .mov (.tmp 26)⟩,
 ⟨(some 221), (some (216, false)), .mov (.tmp 12)⟩,
 ⟨(some 222), (some (216, false)), .bin .andNot (.tmp 220) (.tmp 221)⟩,
 ⟨(some 223), (some (216, false)), .bin .neq (.tmp 219) (.tmp 222)⟩,
 ⟨(some 224), none, .pick (.tmp 216) (.lit (.bool true)) (.tmp 223)⟩])
 (.cond (.tmp 224) (.seq (.reg [⟨(some 4), none, .mov (.lit (.bool false))⟩])
 (.ret))
 (.skip)))
 (.seq (.seq (.reg [⟨(some 225), none, .mov (.tmp 5)⟩,
 ⟨(some 226), none, .mov (.lit (.int .i64 0))⟩])
 (.block 8 (.loop (.seq (.reg [⟨(some 227), none, .bin .lss (.tmp 226) (.tmp 225)⟩])
 (.seq (.cond (.tmp 227) (.skip)
 (.exit 8))
 (.seq (.block 9 (.seq (.reg [⟨(some 228), none, .mov (.tmp 226)⟩,
 ⟨(some 27), none, .mov (.tmp 228)⟩])
 (.seq (.reg [⟨(some 230), none, .load true 5 (.tmp 2)⟩,
 ⟨(some 231), none, .mov (.tmp 8)⟩,
 ⟨(some 232), none, .mov (.tmp 27)⟩,
 ⟨(some 233), none, .call (.fn 17) [(.tmp 230), (.tmp 231), (.tmp 232)]⟩,
 ⟨(some 229), none, .mov (.tmp 233)⟩,
 ⟨(some 234), none, .ext (.tmp 229) 0⟩,
 ⟨(some 235), none, .ext (.tmp 229) 1⟩,
 ⟨(some 236), none, .ext (.tmp 229) 2⟩,
 ⟨(some 28), none, .mov (.tmp 234)⟩,
 ⟨(some 29), none, .mov (.tmp 235)⟩,
 ⟨(some 30), none, .mov (.tmp 236)⟩])
 (.seq (.reg [⟨(some 237), none, .mov (.tmp 30)⟩,
 ⟨(some 238), none, .bin .neq (.tmp 237) (.lit (.int .i64 0))⟩,
 ⟨(some 239), none, .mov (.tmp 238)⟩,
 ⟨(some 240), (some (239, false)), .mov (.tmp 28)⟩,
 ⟨(some 241), (some (239, false)), .mov (.tmp 27)⟩,
 ⟨(some 242), (some (239, false)), .iaddrA 3 1 (.tmp 9) (.tmp 241)⟩,
 ⟨(some 243), (some (239, false)), .load false 1 (.tmp 242)⟩,
 ⟨(some 244), (some (239, false)), .bin .neq (.tmp 240) (.tmp 243)⟩,
 ⟨(some 245), none, .pick (.tmp 239) (.lit (.bool true)) (.tmp 244)⟩,
 ⟨(some 246), none, .mov (.tmp 245)⟩,
 ⟨(some 247), (some (246, false)), .mov (.tmp 29)⟩,
 ⟨(some 248), (some (246, false)), .mov (.tmp 27)⟩,
 ⟨(some 249), (some (246, false)), .iaddrA 3 1 (.tmp 10) (.tmp 248)⟩,
 ⟨(some 250), (some (246, false)), .load false 1 (.tmp 249)⟩,
 ⟨(some 251), (some (246, false)), .eqb true (.tmp 247) (.tmp 250)⟩,
 ⟨(some 252), none, .pick (.tmp 246) (.lit (.bool true)) (.tmp 251)⟩])
 (.cond (.tmp 252) (.seq (.reg [⟨(some 4), none, .mov (.lit (.bool false))⟩])
 (.ret))
 (.skip))))))
 (.reg [⟨(some 253), none, .bin .add (.tmp 226) (.lit (.int .i64 1))⟩,
 ⟨(some 226), none, .mov (.tmp 253)⟩])))))))
 (.seq (.reg [⟨(some 254), none, .call (.fn 14) []⟩,
 ⟨(some 4), none, .mov (.tmp 254)⟩])
 (.ret)))))))))))))))
theorem k8 : FnC Tryd.prog 8 255 [] [26] [.tmp 4] c8 2 := ⟨Tryd.f8, _, Tryd.func8, rfl, by decide, rfl, by decide, by kernel_rfl, by kernel_rfl⟩
end Go.Proofs.YtmahocdmkpigjaaDoor

/- SurfEnds: all truths of the first hours, gone through by numbers. Plain laws. -/
namespace Go.Proofs.YtmahocdmkpigjaaDoor
open Go Go.Ab

/-! ### Truths by numbers -/
def wn (s : Su) (h : Nat) : Nat := numS (s.water.getD h (0, 0))
def vn (s : Su) (h : Nat) : Nat := numS (s.waves.getD h (0, 0))
def resW (s : Su) (w : Nat) : Nat → Nat
  | 0 => w
  | h + 1 => resW s w h / wn s h / vn s h
def hoW (s : Su) (w h : Nat) : Hour := ((s.water.getD h (0, 0)).1 + (resW s w h % wn s h : Nat), (s.waves.getD h (0, 0)).1 + (resW s w h / wn s h % vn s h : Nat))
def osW (s : Su) (w n : Nat) : List Hour := (List.range n).map (hoW s w)
def waysP (s : Su) : Nat → Nat
  | 0 => 1
  | h + 1 => waysP s h * (wn s h * vn s h)
theorem osW_succ (s : Su) (w n : Nat) : osW s w (n + 1) = osW s w n ++ [hoW s w n] := by unfold osW; rw [List.range_succ, List.map_append]; rfl
theorem osW_len (s : Su) (w n : Nat) : (osW s w n).length = n := by simp [osW]
theorem osW_get (s : Su) (w : Nat) {n i : Nat} (hi : i < n) : (osW s w n)[i]? = some (hoW s w i) := by unfold osW; rw [List.getElem?_map, List.getElem?_range hi]; rfl
theorem osW_take (s : Su) (w : Nat) {n i : Nat} (hi : i ≤ n) : (osW s w n).take i = osW s w i := by
  unfold osW
  rw [← List.map_take, List.take_range, Nat.min_eq_left hi]
theorem at_near {s : Su} (hs : s.OK) {h : Nat} (hh : h < s.water.length) : s.water[h]? = some (s.water.getD h (0, 0)) ∧ s.waves[h]? = some (s.waves.getD h (0, 0)) ∧ Near (s.water.getD h (0, 0)) 30 ∧ Near (s.waves.getD h (0, 0)) 10 := by
  have hnv := hs.nv
  have hx : s.water[h]? = some (s.water.getD h (0, 0)) := by rw [List.getD_eq_getElem?_getD, List.getElem?_eq_getElem hh]; rfl
  have hy : s.waves[h]? = some (s.waves.getD h (0, 0)) := by rw [List.getD_eq_getElem?_getD, List.getElem?_eq_getElem (by omega)]; rfl
  exact ⟨hx, hy, hs.water _ (List.mem_of_getElem? hx), hs.waves _ (List.mem_of_getElem? hy)⟩
theorem wn_is {s : Su} (hs : s.OK) {h : Nat} (hh : h < s.water.length) : 1 ≤ wn s h ∧ wn s h ≤ 4 ∧ 1 ≤ vn s h ∧ vn s h ≤ 4 ∧ ((wn s h : Nat) : Int) = (s.water.getD h (0, 0)).2 - (s.water.getD h (0, 0)).1 + 1 ∧ ((vn s h : Nat) : Int) = (s.waves.getD h (0, 0)).2 - (s.waves.getD h (0, 0)).1 + 1 := by
  obtain ⟨_, _, h1, h2⟩ := at_near hs hh
  unfold Near at h1 h2
  unfold wn vn numS
  omega
theorem hoW_mem {s : Su} (hs : s.OK) (w : Nat) {h : Nat} (hh : h < s.water.length) : hoW s w h ∈ hoursL s h := by
  obtain ⟨hx, hy, h1, h2⟩ := at_near hs hh
  obtain ⟨a1, a2, a3, a4, a5, a6⟩ := wn_is hs hh
  rw [hoursL_eq hx hy]
  have m1 : resW s w h % wn s h < wn s h := Nat.mod_lt _ (by omega)
  have m2 : resW s w h / wn s h % vn s h < vn s h := Nat.mod_lt _ (by omega)
  exact hoursP_mem ⟨by omega, by omega⟩ ⟨by omega, by omega⟩
theorem osW_Tr {s : Su} (hs : s.OK) (w : Nat) {n : Nat} (hn : n ≤ s.water.length) : Tr s (osW s w n) := by
  intro i o ho
  have hi : i < n := by rw [← osW_len s w n]; exact (List.getElem?_eq_some_iff.1 ho).1
  rw [osW_get s w hi] at ho
  cases ho
  exact hoW_mem hs w (by omega)
/-- Each truth has a number. -/
theorem osW_all {s : Su} (hs : s.OK) : ∀ (n : Nat) (os : List Hour), n ≤ s.water.length → os.length = n → Tr s os → ∀ r : Nat, ∃ w, w < waysP s n * (r + 1) ∧ osW s w n = os ∧ resW s w n = r
  | 0, os, _, hl, _, r => ⟨r, by show r < 1 * (r + 1); omega, by rw [List.eq_nil_of_length_eq_zero hl]; rfl, rfl⟩
  | n + 1, os, hn, hl, ht, r => by
    obtain ⟨os', o, rfl, hl'⟩ := snoc_cases os hl
    obtain ⟨h1, h2⟩ := Tr_snoc.1 ht
    rw [hl'] at h2
    obtain ⟨hx, hy, n1, n2⟩ := at_near hs (show n < s.water.length by omega)
    obtain ⟨a1, a2, a3, a4, a5, a6⟩ := wn_is hs (show n < s.water.length by omega)
    rw [hoursL_eq hx hy] at h2
    have ho : ∃ a b : Nat, a < wn s n ∧ b < vn s n ∧ o = ((s.water.getD n (0, 0)).1 + (a : Nat), (s.waves.getD n (0, 0)).1 + (b : Nat)) := by
      unfold hoursP hourRow at h2
      simp only [List.mem_flatMap, List.mem_map, List.mem_range] at h2
      obtain ⟨a, ha, b, hb, e⟩ := h2
      exact ⟨a, b, ha, hb, e.symm⟩
    obtain ⟨a, b, ha, hb, rfl⟩ := ho
    obtain ⟨w, hw, e1, e2⟩ := osW_all hs n os' (by omega) hl' h1 (a + wn s n * (b + vn s n * r))
    have d1 : (a + wn s n * (b + vn s n * r)) % wn s n = a := by rw [Nat.add_mul_mod_self_left, Nat.mod_eq_of_lt ha]
    have d2 : (a + wn s n * (b + vn s n * r)) / wn s n = b + vn s n * r := by rw [Nat.add_mul_div_left _ _ (by omega), Nat.div_eq_of_lt ha, Nat.zero_add]
    have d3 : (b + vn s n * r) % vn s n = b := by rw [Nat.add_mul_mod_self_left, Nat.mod_eq_of_lt hb]
    have d4 : (b + vn s n * r) / vn s n = r := by rw [Nat.add_mul_div_left _ _ (by omega), Nat.div_eq_of_lt hb, Nat.zero_add]
    refine ⟨w, ?_, ?_, ?_⟩
    · refine Nat.lt_of_lt_of_le hw ?_
      show _ ≤ waysP s n * (wn s n * vn s n) * (r + 1)
      rw [Nat.mul_assoc]
      refine Nat.mul_le_mul (Nat.le_refl _) ?_
      have q1 : b + 1 ≤ vn s n := by omega
      have q2 : b + vn s n * r + 1 ≤ vn s n * (r + 1) := by rw [Nat.mul_add, Nat.mul_one]; omega
      have q3 : wn s n * (b + vn s n * r + 1) ≤ wn s n * (vn s n * (r + 1)) := Nat.mul_le_mul (Nat.le_refl _) q2
      rw [← Nat.mul_assoc] at q3
      refine Nat.le_trans ?_ q3
      have q4 : wn s n * (b + vn s n * r + 1) = wn s n * (b + vn s n * r) + wn s n := by rw [Nat.mul_add, Nat.mul_one]
      omega
    · rw [osW_succ, e1]
      unfold hoW
      rw [e2, d1, d2, d3]
    · show resW s w n / wn s n / vn s n = r
      rw [e2, d2, d4]
theorem waysP_mono {s : Su} (hs : s.OK) {i n : Nat} (hi : i ≤ n) (hn : n ≤ s.water.length) : waysP s i ≤ waysP s n := by
  induction n with
  | zero => rw [Nat.le_zero.1 hi]; exact Nat.le_refl _
  | succ n ih =>
    by_cases c : i = n + 1
    · subst c; exact Nat.le_refl _
    · obtain ⟨a1, a2, a3, a4, _⟩ := wn_is hs (show n < s.water.length by omega)
      refine Nat.le_trans (ih (by omega) (by omega)) ?_
      show waysP s n ≤ waysP s n * (wn s n * vn s n)
      exact Nat.le_mul_of_pos_right _ (Nat.mul_pos (by omega) (by omega))
theorem waysP_le {s : Su} (hs : s.OK) : ∀ n ≤ s.water.length, n ≤ 3 → waysP s n ≤ 16 ^ n
  | 0, _, _ => Nat.le_refl _
  | n + 1, h, h3 => by
    obtain ⟨a1, a2, a3, a4, _⟩ := wn_is hs (show n < s.water.length by omega)
    have := waysP_le hs n (by omega) (by omega)
    show waysP s n * (wn s n * vn s n) ≤ 16 ^ n * 16
    exact Nat.mul_le_mul this (show wn s n * vn s n ≤ 4 * 4 from Nat.mul_le_mul a2 a4)

/-! ### What has been seen so far: bits, of truths before the j-th, and of the j-th in hours before the k-th -/
def seen (P : Nat → Nat → Bool) (j k i : Nat) : Bool := (List.range (if i < k then j + 1 else j)).any (P · i)
def acc (P : Nat → Nat → Bool) (n j k : Nat) : Nat := maskOf (seen P j k) n
theorem any_succ (p : Nat → Bool) (j : Nat) : (List.range (j + 1)).any p = ((List.range j).any p || p j) := by rw [List.range_succ, List.any_append]; simp
theorem seen_step (P : Nat → Nat → Bool) (j k i : Nat) : seen P j (k + 1) i = if i = k then seen P j k i || P j k else seen P j k i := by
  unfold seen
  by_cases c : i = k
  · subst c
    rw [if_pos rfl, if_pos (by omega), if_neg (by omega), any_succ]
  · rw [if_neg c]
    by_cases c2 : i < k
    · rw [if_pos c2, if_pos (by omega)]
    · rw [if_neg c2, if_neg (by omega)]
theorem seen_end (P : Nat → Nat → Bool) (j : Nat) {n i : Nat} (hi : i < n) : seen P j n i = seen P (j + 1) 0 i := by unfold seen; rw [if_pos hi, if_neg (by omega)]
theorem seen_zero (P : Nat → Nat → Bool) (j i : Nat) : seen P j 0 i = (List.range j).any (P · i) := rfl
theorem acc_step (P : Nat → Nat → Bool) {n j k : Nat} (hk : k < n) : acc P n j (k + 1) = if P j k then acc P n j k ||| 2 ^ k else acc P n j k := by
  unfold acc
  apply Nat.eq_of_testBit_eq
  intro i
  rw [maskOf_bit, seen_step]
  by_cases c : i = k
  · subst c
    cases h : P j i
    · simp [maskOf_bit]
    · simp [maskOf_bit, hk]
  · rw [if_neg c]
    cases h : P j k
    · simp [maskOf_bit]
    · simp only [if_true]
      rw [Nat.testBit_or, maskOf_bit, Nat.testBit_two_pow, decide_eq_false (fun e : k = i => c e.symm), Bool.or_false]
theorem acc_end (P : Nat → Nat → Bool) (n j : Nat) : acc P n j n = acc P n (j + 1) 0 := by
  unfold acc
  apply Nat.eq_of_testBit_eq
  intro i
  rw [maskOf_bit, maskOf_bit]
  by_cases c : i < n
  · rw [seen_end P j c]
  · rw [decide_eq_false c]; rfl
theorem acc_nil (P : Nat → Nat → Bool) (n : Nat) : acc P n 0 0 = 0 := by
  apply Nat.eq_of_testBit_eq
  intro i
  unfold acc
  rw [maskOf_bit, seen_zero]
  simp
theorem acc_lt (P : Nat → Nat → Bool) (n j k : Nat) : acc P n j k < 2 ^ n := maskOf_lt _ _
def rowC (Q : Nat → Nat → Nat) (n j k i : Nat) : Nat := if i < n then maskOf (fun r => seen (fun w i => decide (Q w i = r + 1)) j k i) 6 else 0
def lostC (Q : Nat → Nat → Nat) (n j k i : Nat) : Bool := decide (i < n) && seen (fun w i => decide (Q w i = 0)) j k i
def rowsA (Q : Nat → Nat → Nat) (n j k : Nat) : List Nat := (List.range 3).map (rowC Q n j k)
def lostA (Q : Nat → Nat → Nat) (n j k : Nat) : List Bool := (List.range 3).map (lostC Q n j k)
theorem rowC_lt (Q : Nat → Nat → Nat) (n j k i : Nat) : rowC Q n j k i < 64 := by
  unfold rowC
  split
  · exact maskOf_lt _ 6
  · decide
theorem set_at {α : Type} {n : Nat} {f g : Nat → α} {k : Nat} (hk : k < n) (h : ∀ i, i ≠ k → g i = f i) : ((List.range n).map f).set k (g k) = (List.range n).map g := by
  apply List.ext_getElem?
  intro i
  by_cases e : k = i
  · subst e
    rw [List.getElem?_set_self (by simpa using hk), List.getElem?_map, List.getElem?_range hk]; rfl
  · rw [List.getElem?_set_ne e, List.getElem?_map, List.getElem?_map]
    by_cases hi : i < n
    · rw [List.getElem?_range hi, Option.map_some, Option.map_some, h i (fun e' => e e'.symm)]
    · rw [List.getElem?_eq_none (l := List.range n) (by simp; omega)]; rfl
theorem rowC_ne (Q : Nat → Nat → Nat) (n j k i : Nat) (h : i ≠ k) : rowC Q n j (k + 1) i = rowC Q n j k i := by
  unfold rowC
  split
  · congr 1
    funext r
    rw [seen_step, if_neg h]
  · rfl
theorem lostC_ne (Q : Nat → Nat → Nat) (n j k i : Nat) (h : i ≠ k) : lostC Q n j (k + 1) i = lostC Q n j k i := by
  unfold lostC
  rw [seen_step, if_neg h]
theorem rowC_zero (Q : Nat → Nat → Nat) {n j k : Nat} (h : Q j k = 0) : rowC Q n j (k + 1) k = rowC Q n j k k := by
  unfold rowC
  split
  · congr 1
    funext r
    rw [seen_step, if_pos rfl, h]
    simp
  · rfl
theorem rowC_succ (Q : Nat → Nat → Nat) {n j k r : Nat} (hk : k < n) (hr : r < 6) (h : Q j k = r + 1) : rowC Q n j (k + 1) k = rowC Q n j k k ||| 2 ^ r := by
  unfold rowC
  rw [if_pos hk, if_pos hk]
  apply Nat.eq_of_testBit_eq
  intro i
  rw [maskOf_bit, Nat.testBit_or, maskOf_bit, Nat.testBit_two_pow, seen_step, if_pos rfl, h]
  by_cases c : i = r
  · subst c; simp [hr]
  · have : ¬ r = i := fun e => c e.symm
    simp [this]
theorem lostC_zero (Q : Nat → Nat → Nat) {n j k : Nat} (hk : k < n) (h : Q j k = 0) : lostC Q n j (k + 1) k = true := by
  unfold lostC
  rw [seen_step, if_pos rfl, decide_eq_true hk, h]
  simp
theorem lostC_succ (Q : Nat → Nat → Nat) {n j k r : Nat} (h : Q j k = r + 1) : lostC Q n j (k + 1) k = lostC Q n j k k := by
  unfold lostC
  rw [seen_step, if_pos rfl, h]
  simp
theorem rowsA_zero (Q : Nat → Nat → Nat) {n j k : Nat} (h : Q j k = 0) : rowsA Q n j (k + 1) = rowsA Q n j k := by
  unfold rowsA
  apply List.map_congr_left
  intro i _
  by_cases c : i = k
  · subst c; exact rowC_zero Q h
  · exact rowC_ne Q n j k i c
theorem rowsA_succ (Q : Nat → Nat → Nat) {n j k r : Nat} (hk : k < n) (h3 : n ≤ 3) (hr : r < 6) (h : Q j k = r + 1) : (rowsA Q n j k).set k (rowC Q n j k k ||| 2 ^ r) = rowsA Q n j (k + 1) := by
  rw [← rowC_succ Q hk hr h]
  exact set_at (by omega) fun i hi => rowC_ne Q n j k i hi
theorem lostA_zero (Q : Nat → Nat → Nat) {n j k : Nat} (hk : k < n) (h3 : n ≤ 3) (h : Q j k = 0) : (lostA Q n j k).set k true = lostA Q n j (k + 1) := by
  rw [← lostC_zero Q hk h]
  exact set_at (by omega) fun i hi => lostC_ne Q n j k i hi
theorem lostA_succ (Q : Nat → Nat → Nat) {n j k r : Nat} (h : Q j k = r + 1) : lostA Q n j (k + 1) = lostA Q n j k := by
  unfold lostA
  apply List.map_congr_left
  intro i _
  by_cases c : i = k
  · subst c; exact lostC_succ Q h
  · exact lostC_ne Q n j k i c
theorem rowsA_end (Q : Nat → Nat → Nat) (n j : Nat) : rowsA Q n j n = rowsA Q n (j + 1) 0 := by
  unfold rowsA
  apply List.map_congr_left
  intro i _
  unfold rowC
  split
  · rename_i c
    congr 1
    funext r
    exact seen_end _ j c
  · rfl
theorem lostA_end (Q : Nat → Nat → Nat) (n j : Nat) : lostA Q n j n = lostA Q n (j + 1) 0 := by
  unfold lostA
  apply List.map_congr_left
  intro i _
  unfold lostC
  by_cases c : i < n
  · rw [seen_end _ j c]
  · rw [decide_eq_false c]; rfl
theorem rowsA_nil (Q : Nat → Nat → Nat) (n : Nat) : rowsA Q n 0 0 = [0, 0, 0] := by
  have : ∀ i, rowC Q n 0 0 i = 0 := fun i => by
    unfold rowC
    split
    · apply Nat.eq_of_testBit_eq
      intro r
      rw [maskOf_bit, seen_zero]
      simp
    · rfl
  unfold rowsA
  rw [show List.range 3 = [0, 1, 2] from rfl]
  simp only [List.map_cons, List.map_nil, this]
theorem lostA_nil (Q : Nat → Nat → Nat) (n : Nat) : lostA Q n 0 0 = [false, false, false] := by
  have : ∀ i, lostC Q n 0 0 i = false := fun i => by
    unfold lostC
    rw [seen_zero]
    simp
  unfold lostA
  rw [show List.range 3 = [0, 1, 2] from rfl]
  simp only [List.map_cons, List.map_nil, this]
theorem rowsA_get (Q : Nat → Nat → Nat) (n j k : Nat) {i : Nat} (hi : i < 3) : (rowsA Q n j k)[i]? = some (rowC Q n j k i) := by unfold rowsA; rw [List.getElem?_map, List.getElem?_range hi]; rfl
theorem lostA_get (Q : Nat → Nat → Nat) (n j k : Nat) {i : Nat} (hi : i < 3) : (lostA Q n j k)[i]? = some (lostC Q n j k i) := by unfold lostA; rw [List.getElem?_map, List.getElem?_range hi]; rfl
theorem rowsA_len (Q : Nat → Nat → Nat) (n j k : Nat) : (rowsA Q n j k).length = 3 := by simp [rowsA]
theorem lostA_len (Q : Nat → Nat → Nat) (n j k : Nat) : (lostA Q n j k).length = 3 := by simp [lostA]

/-! ### What is told is what all of them tell -/
def floQ (s : Su) (h : Hu) (w i : Nat) : Bool := Flo s h (osW s w i) (hoW s w i)
def noQ (s : Su) (h : Hu) (w i : Nat) : Bool := !floQ s h w i
def posQ (s : Su) (h : Hu) (w i : Nat) : Nat := runP s h (osW s w (i + 1))
theorem flo_ex {s : Su} (hs : s.OK) (h : Hu) {n i : Nat} (hn : n ≤ s.water.length) (hi : i < n) (b : Bool) : (∃ os o, os.length = i ∧ Tr s (os ++ [o]) ∧ Flo s h os o = b) ↔ ∃ w < waysP s n, floQ s h w i = b := by
  constructor
  · rintro ⟨os, o, hl, ht, e⟩
    obtain ⟨w, hw, e1, _⟩ := osW_all hs (i + 1) (os ++ [o]) (by omega) (by simp [hl]) ht 0
    refine ⟨w, by have := waysP_mono hs (show i + 1 ≤ n by omega) hn; omega, ?_⟩
    rw [osW_succ] at e1
    obtain ⟨q1, q2⟩ := List.append_inj' e1 rfl
    unfold floQ
    rw [q1, List.cons.inj q2 |>.1]
    exact e
  · rintro ⟨w, _, e⟩
    exact ⟨osW s w i, hoW s w i, osW_len s w i, by rw [← osW_succ]; exact osW_Tr hs w (by omega), e⟩
theorem any_lt {p : Nat → Bool} {n : Nat} : (List.range n).any p = true ↔ ∃ w < n, p w = true := by
  simp [List.any_eq_true]
theorem can_first {s : Su} (hs : s.OK) {h : Hu} (hr : 0 ≤ h.row ∧ h.row < 6) {n : Nat} (hn : n ≤ s.water.length) : canM s h &&& (2 ^ n - 1) = acc (floQ s h) n (waysP s n) 0 := by
  apply Nat.eq_of_testBit_eq
  intro i
  unfold acc
  rw [Nat.testBit_and, Nat.testBit_two_pow_sub_one, maskOf_bit, maskOf_bit, seen_zero]
  by_cases c : i < n
  · rw [decide_eq_true c, decide_eq_true (show i < s.water.length by omega), Bool.and_true, Bool.true_and, Bool.true_and, Bool.eq_iff_iff, canB_iff s h hr, any_lt]
    exact flo_ex hs h hn c true
  · rw [decide_eq_false c, Bool.and_false, Bool.false_and]
theorem sure_first {s : Su} (hs : s.OK) {h : Hu} (hr : 0 ≤ h.row ∧ h.row < 6) {n : Nat} (hn : n ≤ s.water.length) : sureM s h &&& (2 ^ n - 1) = ndiff (2 ^ n - 1) (acc (noQ s h) n (waysP s n) 0) := by
  apply Nat.eq_of_testBit_eq
  intro i
  unfold acc
  rw [ndiff_bit, Nat.testBit_and, Nat.testBit_two_pow_sub_one, maskOf_bit, maskOf_bit, seen_zero]
  by_cases c : i < n
  · rw [decide_eq_true c, decide_eq_true (show i < s.water.length by omega), Bool.and_true, Bool.true_and, Bool.true_and, Bool.true_and]
    unfold sureB
    congr 1
    rw [Bool.eq_iff_iff, (tal_is s h hr i).2, any_lt, flo_ex hs h hn c false]
    unfold noQ
    simp
  · rw [decide_eq_false c, Bool.and_false, Bool.false_and]
theorem pos_ex {s : Su} (hs : s.OK) {h : Hu} (hr : 0 ≤ h.row ∧ h.row < 6) {n i : Nat} (hn : n ≤ s.water.length) (hi : i < n) (k : Nat) : (logS s h (i + 1)).testBit k = true ↔ ∃ w < waysP s n, posQ s h w i = k := by
  rw [log_mem s h hr]
  constructor
  · rintro ⟨os, hl, ht, e⟩
    obtain ⟨w, hw, e1, _⟩ := osW_all hs (i + 1) os (by omega) hl ht 0
    refine ⟨w, by have := waysP_mono hs (show i + 1 ≤ n by omega) hn; omega, ?_⟩
    unfold posQ
    rw [e1]; exact e
  · rintro ⟨w, _, e⟩
    exact ⟨osW s w (i + 1), osW_len s w _, osW_Tr hs w (by omega), e⟩
theorem row_first {s : Su} (hs : s.OK) {h : Hu} (hr : 0 ≤ h.row ∧ h.row < 6) {n i : Nat} (hn : n ≤ s.water.length) (hi : i < n) : logS s h (i + 1) / 2 = rowC (posQ s h) n (waysP s n) 0 i := by
  unfold rowC
  rw [if_pos hi]
  apply Nat.eq_of_testBit_eq
  intro r
  rw [Nat.testBit_div_two, maskOf_bit, seen_zero]
  by_cases c : r < 6
  · rw [decide_eq_true c, Bool.true_and, Bool.eq_iff_iff, pos_ex hs hr hn hi, any_lt]
    simp
  · rw [decide_eq_false c, Bool.false_and, ← Bool.not_eq_true, log_mem s h hr]
    rintro ⟨os, _, _, e⟩
    have := runP_le s h os
    omega
theorem lost_first {s : Su} (hs : s.OK) {h : Hu} (hr : 0 ≤ h.row ∧ h.row < 6) {n i : Nat} (hn : n ≤ s.water.length) (hi : i < n) : (logS s h (i + 1)).testBit 0 = lostC (posQ s h) n (waysP s n) 0 i := by
  unfold lostC
  rw [decide_eq_true hi, Bool.true_and, seen_zero, Bool.eq_iff_iff, pos_ex hs hr hn hi, any_lt]
  simp
theorem rowsL_W (s : Su) (h : Hu) (w n : Nat) : rowsL s h (osW s w n) n = (List.range n).map fun i => (posQ s h w i : Int) - 1 := by
  unfold rowsL
  apply List.map_congr_left
  intro i hi
  rw [osW_take s w (by have := List.mem_range.1 hi; omega)]; rfl
theorem floL_W (s : Su) (h : Hu) (w n : Nat) : floL s h (osW s w n) n = (List.range n).map (floQ s h w) := by
  unfold floL
  apply List.map_congr_left
  intro i hi
  have hi := List.mem_range.1 hi
  rw [osW_take s w (by omega), List.getD_eq_getElem?_getD, osW_get s w hi]; rfl
end Go.Proofs.YtmahocdmkpigjaaDoor

/- SurfEnds: the walk of all truths of the first hours. -/
namespace Go.Proofs.YtmahocdmkpigjaaDoor
open Go Go.Ab

abbrev rowI (l : List Nat) : AO := .cells ((l.map fun z : Nat => vi z).map .t)
abbrev rowB (l : List Bool) : AO := .cells ((l.map fun b : Bool => vb b).map .t)
def EnMid (s : Su) (n N : Nat) (st : St) : Prop := lk st.env 2 = .ptr 0 0 ∧ lk st.env 5 = .t (vi N) ∧ lk st.env 6 = .t (vi (waysP s N : Nat)) ∧ lk st.env 8 = .t (vi n) ∧ lk st.env 9 = .ptr 1 0 ∧ lk st.env 10 = .ptr 2 0 ∧ st.σ = [.cells ((su5 s).map .t), rowI [0, 0, 0], rowB [false, false, false]] ∧ st.df = [] ∧ st.k = 0
def EnMid2 (s : Su) (n N : Nat) (R : List Nat) (L : List Bool) (y z : Nat) (st : St) : Prop := lk st.env 2 = .ptr 0 0 ∧ lk st.env 5 = .t (vi N) ∧ lk st.env 8 = .t (vi n) ∧ lk st.env 9 = .ptr 1 0 ∧ lk st.env 10 = .ptr 2 0 ∧ lk st.env 11 = .t (vi y) ∧ lk st.env 12 = .t (vi z) ∧ st.σ = [.cells ((su5 s).map .t), rowI R, rowB L] ∧ st.df = [] ∧ st.k = 0
theorem wrap_tdiv (r a : Nat) (h : r ≤ 5000) : IntKind.i64.wrap ((r : Int).tdiv (a : Int)) = ((r / a : Nat) : Int) := by
  have : r / a ≤ r := Nat.div_le_self _ _
  rw [Int.tdiv_eq_ediv_of_nonneg (by omega), ← Int.natCast_ediv]
  generalize r / a = q at *
  exact wrap_id (by omega) (by omega)
theorem pow16 {n : Nat} (h : n ≤ 3) : 16 ^ n ≤ 4096 := (show 16 ^ n ≤ 16 ^ 3 from Nat.pow_le_pow_right (by decide) h)

set_option maxRecDepth 8000 in
set_option maxHeartbeats 8000000 in
theorem SurfEnds_ok (s : Su) (hL : Lens s) (u : Nat) (hu : u < 256) : ACall Tryd.prog 8 [.t (.agg (su5 s)), .t (.lit (.int .u8 u))] [] (res (.ret (.t (vb true)))) := by
  refine ACall.walk k8 ?_
  have h33 := fine_ok s hL
  unfold c8
  refine awpL_chop 8 (c1 := ?a1) (c2 := ?a2) (fun st => s.OK ∧ ∃ n h, s.huts[n]? = some h ∧ EnMid s n (min 3 s.water.length) st) ?hc ?_ ?_
  case hc => simp only [chop]; rfl
  · unfold su5 at h33 ⊢
    simp only [go_sem, Nat.reduceEqDiff, Nat.reduceAdd, Nat.reduceSub, Nat.reduceMul, Nat.reduceLT, Nat.reduceLeDiff, Nat.reduceMod, Nat.reduceDiv, Int.reduceToNat, Int.reduceLT, Int.reduceLE, Bool.not_true, Bool.not_false, reduceIte, Int.reduceEq, Int.reduceBEq, Int.reduceBNe, Int.reduceGT, Int.reduceGE, Int.reduceNeg, Int.reduceAdd, Int.reduceSub, Nat.reduceBEq, decide_true, decide_false, undef, beq_self_eq_true, bne_self_eq_false, Bool.and_true, Bool.true_and, Bool.and_false, Bool.false_and, Bool.or_true, Bool.true_or, Bool.or_false, Bool.false_or]
    refine ACallL.quiet1 h33 rfl rfl rfl ?_
    cases hF : fineB s
    · simp only [go_sem, Nat.reduceEqDiff, Nat.reduceAdd, Nat.reduceSub, Nat.reduceMul, Nat.reduceLT, Nat.reduceLeDiff, Nat.reduceMod, Nat.reduceDiv, Int.reduceToNat, Int.reduceLT, Int.reduceLE, Bool.not_true, Bool.not_false, reduceIte, Int.reduceEq, Int.reduceBEq, Int.reduceBNe, Int.reduceGT, Int.reduceGE, Int.reduceNeg, Int.reduceAdd, Int.reduceSub, Nat.reduceBEq, decide_true, decide_false, undef, beq_self_eq_true, bne_self_eq_false, Bool.and_true, Bool.true_and, Bool.and_false, Bool.false_and, Bool.or_true, Bool.true_or, Bool.or_false, Bool.false_or, undef]
      refine ACallL.quiet1 awake_ok rfl rfl rfl ?_
      simp only [go_sem, Nat.reduceEqDiff, Nat.reduceAdd, Nat.reduceSub, Nat.reduceMul, Nat.reduceLT, Nat.reduceLeDiff, Nat.reduceMod, Nat.reduceDiv, Int.reduceToNat, Int.reduceLT, Int.reduceLE, Bool.not_true, Bool.not_false, reduceIte, Int.reduceEq, Int.reduceBEq, Int.reduceBNe, Int.reduceGT, Int.reduceGE, Int.reduceNeg, Int.reduceAdd, Int.reduceSub, Nat.reduceBEq, decide_true, decide_false, undef, beq_self_eq_true, bne_self_eq_false, Bool.and_true, Bool.true_and, Bool.and_false, Bool.false_and, Bool.or_true, Bool.true_or, Bool.or_false, Bool.false_or, undef]
      exact finL_ret [] ⟨rfl, rfl, rfl, rfl, _, rfl, res_mk rfl⟩
    obtain ⟨hok, hs⟩ := fine_iff hF
    have hnh := hs.nh
    have hnw := hs.nw
    simp only [go_sem, Nat.reduceEqDiff, Nat.reduceAdd, Nat.reduceSub, Nat.reduceMul, Nat.reduceLT, Nat.reduceLeDiff, Nat.reduceMod, Nat.reduceDiv, Int.reduceToNat, Int.reduceLT, Int.reduceLE, Bool.not_true, Bool.not_false, reduceIte, Int.reduceEq, Int.reduceBEq, Int.reduceBNe, Int.reduceGT, Int.reduceGE, Int.reduceNeg, Int.reduceAdd, Int.reduceSub, Nat.reduceBEq, decide_true, decide_false, undef, beq_self_eq_true, bne_self_eq_false, Bool.and_true, Bool.true_and, Bool.and_false, Bool.false_and, Bool.or_true, Bool.true_or, Bool.or_false, Bool.false_or, undef, List.length_map]
    cases h0 : ((s.huts.length : Int) == 0)
    rotate_left
    · simp only [go_sem, Nat.reduceEqDiff, Nat.reduceAdd, Nat.reduceSub, Nat.reduceMul, Nat.reduceLT, Nat.reduceLeDiff, Nat.reduceMod, Nat.reduceDiv, Int.reduceToNat, Int.reduceLT, Int.reduceLE, Bool.not_true, Bool.not_false, reduceIte, Int.reduceEq, Int.reduceBEq, Int.reduceBNe, Int.reduceGT, Int.reduceGE, Int.reduceNeg, Int.reduceAdd, Int.reduceSub, Nat.reduceBEq, decide_true, decide_false, undef, beq_self_eq_true, bne_self_eq_false, Bool.and_true, Bool.true_and, Bool.and_false, Bool.false_and, Bool.or_true, Bool.true_or, Bool.or_false, Bool.false_or, undef, h0]
      refine ACallL.quiet1 awake_ok rfl rfl rfl ?_
      simp only [go_sem, Nat.reduceEqDiff, Nat.reduceAdd, Nat.reduceSub, Nat.reduceMul, Nat.reduceLT, Nat.reduceLeDiff, Nat.reduceMod, Nat.reduceDiv, Int.reduceToNat, Int.reduceLT, Int.reduceLE, Bool.not_true, Bool.not_false, reduceIte, Int.reduceEq, Int.reduceBEq, Int.reduceBNe, Int.reduceGT, Int.reduceGE, Int.reduceNeg, Int.reduceAdd, Int.reduceSub, Nat.reduceBEq, decide_true, decide_false, undef, beq_self_eq_true, bne_self_eq_false, Bool.and_true, Bool.true_and, Bool.and_false, Bool.false_and, Bool.or_true, Bool.true_or, Bool.or_false, Bool.false_or, undef]
      exact finL_ret [] ⟨rfl, rfl, rfl, rfl, _, rfl, res_mk rfl⟩
    have n0 : ¬ ((s.huts.length : Int) = 0) := by simpa using h0
    have hm3 : min (3 : Int) (s.water.length : Int) = ((min 3 s.water.length : Nat) : Int) := by omega
    have hmw : min 3 s.water.length ≤ s.water.length := by omega
    have hm33 : min 3 s.water.length ≤ 3 := by omega
    generalize min 3 s.water.length = N at *
    simp only [go_sem, Nat.reduceEqDiff, Nat.reduceAdd, Nat.reduceSub, Nat.reduceMul, Nat.reduceLT, Nat.reduceLeDiff, Nat.reduceMod, Nat.reduceDiv, Int.reduceToNat, Int.reduceLT, Int.reduceLE, Bool.not_true, Bool.not_false, reduceIte, Int.reduceEq, Int.reduceBEq, Int.reduceBNe, Int.reduceGT, Int.reduceGE, Int.reduceNeg, Int.reduceAdd, Int.reduceSub, Nat.reduceBEq, decide_true, decide_false, undef, beq_self_eq_true, bne_self_eq_false, Bool.and_true, Bool.true_and, Bool.and_false, Bool.false_and, Bool.or_true, Bool.true_or, Bool.or_false, Bool.false_or, undef, List.length_map, h0, hm3]
    refine awpL_for (i := 46) (L := 45) N (fun j st => st = { env := [(46, .t (vi j)), (45, .t (vi N)), (1, .t (.lit (.int .u8 u))), (2, .ptr 0 0), (5, .t (vi N)), (6, .t (vi (waysP s j : Nat)))], σ := [.cells ((su5 s).map .t)] }) ?_ ⟨_, Sub.gc [0] [46, 45, 1, 2, 5, 6] rfl rfl, rfl⟩ ?_ ?_
    · rintro k st rfl; exact ⟨rfl, rfl⟩
    · rintro j st hj rfl
      have hwj : IntKind.i64.wrap ((j : Int) + 1) = ((j + 1 : Nat) : Int) := by rw [wrap_id (by omega) (by omega)]; omega
      obtain ⟨hx, hy, b1, b2⟩ := at_near hs (show j < s.water.length by omega)
      obtain ⟨p1, p2, p3, p4, p5, p6⟩ := wn_is hs (show j < s.water.length by omega)
      have hW : waysP s (j + 1) = waysP s j * (wn s j * vn s j) := rfl
      have hle := Nat.le_trans (waysP_le hs j (by omega) (by omega)) (pow16 (n := j) (by omega))
      have hle1 := Nat.le_trans (waysP_le hs (j + 1) (by omega) (by omega)) (pow16 (n := j + 1) (by omega))
      have hle2 : wn s j * vn s j ≤ 4 * 4 := Nat.mul_le_mul p2 p4
      generalize wn s j = a at *
      generalize vn s j = b at *
      generalize s.water.getD j (0, 0) = x at *
      generalize s.waves.getD j (0, 0) = y at *
      obtain ⟨xl, xh⟩ := x
      obtain ⟨yl, yh⟩ := y
      unfold Near at b1 b2
      simp only at b1 b2 p5 p6
      have a1 : IntKind.i64.wrap (xh - xl) = xh - xl := wrap_id (by omega) (by omega)
      have a2 : IntKind.i64.wrap (xh - xl + 1) = (a : Int) := by rw [p5]; exact wrap_id (by omega) (by omega)
      have a3 : IntKind.i64.wrap (yh - yl) = yh - yl := wrap_id (by omega) (by omega)
      have a4 : IntKind.i64.wrap (yh - yl + 1) = (b : Int) := by rw [p6]; exact wrap_id (by omega) (by omega)
      have a5 : IntKind.i64.wrap ((a : Int) * (b : Int)) = ((a * b : Nat) : Int) := by rw [← Int.natCast_mul]; exact wrap_id (by omega) (by omega)
      have a6 : IntKind.i64.wrap (((waysP s j : Nat) : Int) * ((a * b : Nat) : Int)) = ((waysP s (j + 1) : Nat) : Int) := by rw [hW, ← Int.natCast_mul]; exact wrap_id (by omega) (by rw [← hW]; omega)
      simp only [su5, go_sem, Nat.reduceEqDiff, Nat.reduceAdd, Nat.reduceSub, Nat.reduceMul, Nat.reduceLT, Nat.reduceLeDiff, Nat.reduceMod, Nat.reduceDiv, Int.reduceToNat, Int.reduceLT, Int.reduceLE, Bool.not_true, Bool.not_false, reduceIte, Int.reduceEq, Int.reduceBEq, Int.reduceBNe, Int.reduceGT, Int.reduceGE, Int.reduceNeg, Int.reduceAdd, Int.reduceSub, Nat.reduceBEq, decide_true, decide_false, undef, beq_self_eq_true, bne_self_eq_false, Bool.and_true, Bool.true_and, Bool.and_false, Bool.false_and, Bool.or_true, Bool.true_or, Bool.or_false, Bool.false_or, undef, List.length_map, List.getElem?_map, hx, hy, Option.map_some, tSp, a1, a2, a3, a4, a5, a6, hwj]
      exact ⟨_, Sub.gc [0] [46, 45, 1, 2, 5, 6] rfl rfl, rfl⟩
    · rintro st rfl
      simp only [su5, go_sem, Nat.reduceEqDiff, Nat.reduceAdd, Nat.reduceSub, Nat.reduceMul, Nat.reduceLT, Nat.reduceLeDiff, Nat.reduceMod, Nat.reduceDiv, Int.reduceToNat, Int.reduceLT, Int.reduceLE, Bool.not_true, Bool.not_false, reduceIte, Int.reduceEq, Int.reduceBEq, Int.reduceBNe, Int.reduceGT, Int.reduceGE, Int.reduceNeg, Int.reduceAdd, Int.reduceSub, Nat.reduceBEq, decide_true, decide_false, undef, beq_self_eq_true, bne_self_eq_false, Bool.and_true, Bool.true_and, Bool.and_false, Bool.false_and, Bool.or_true, Bool.true_or, Bool.or_false, Bool.false_or, undef, List.length_map]
      cases h7 : decide (((waysP s N : Nat) : Int) > 700)
      rotate_left
      · simp only [go_sem, Nat.reduceEqDiff, Nat.reduceAdd, Nat.reduceSub, Nat.reduceMul, Nat.reduceLT, Nat.reduceLeDiff, Nat.reduceMod, Nat.reduceDiv, Int.reduceToNat, Int.reduceLT, Int.reduceLE, Bool.not_true, Bool.not_false, reduceIte, Int.reduceEq, Int.reduceBEq, Int.reduceBNe, Int.reduceGT, Int.reduceGE, Int.reduceNeg, Int.reduceAdd, Int.reduceSub, Nat.reduceBEq, decide_true, decide_false, undef, beq_self_eq_true, bne_self_eq_false, Bool.and_true, Bool.true_and, Bool.and_false, Bool.false_and, Bool.or_true, Bool.true_or, Bool.or_false, Bool.false_or, undef, h7]
        refine ACallL.quiet1 awake_ok rfl rfl rfl ?_
        simp only [go_sem, Nat.reduceEqDiff, Nat.reduceAdd, Nat.reduceSub, Nat.reduceMul, Nat.reduceLT, Nat.reduceLeDiff, Nat.reduceMod, Nat.reduceDiv, Int.reduceToNat, Int.reduceLT, Int.reduceLE, Bool.not_true, Bool.not_false, reduceIte, Int.reduceEq, Int.reduceBEq, Int.reduceBNe, Int.reduceGT, Int.reduceGE, Int.reduceNeg, Int.reduceAdd, Int.reduceSub, Nat.reduceBEq, decide_true, decide_false, undef, beq_self_eq_true, bne_self_eq_false, Bool.and_true, Bool.true_and, Bool.and_false, Bool.false_and, Bool.or_true, Bool.true_or, Bool.or_false, Bool.false_or, undef]
        exact finL_ret [] ⟨rfl, rfl, rfl, rfl, _, rfl, res_mk rfl⟩
      have ha : u % s.huts.length < s.huts.length := Nat.mod_lt _ (by omega)
      have t1 := mod_nat u s.huts.length
      have w0 : IntKind.i64.wrap (u : Int) = u := wrap_id (by omega) (by omega)
      have hg := hut_get ha
      generalize u % s.huts.length = n at *
      simp only [go_sem, Nat.reduceEqDiff, Nat.reduceAdd, Nat.reduceSub, Nat.reduceMul, Nat.reduceLT, Nat.reduceLeDiff, Nat.reduceMod, Nat.reduceDiv, Int.reduceToNat, Int.reduceLT, Int.reduceLE, Bool.not_true, Bool.not_false, reduceIte, Int.reduceEq, Int.reduceBEq, Int.reduceBNe, Int.reduceGT, Int.reduceGE, Int.reduceNeg, Int.reduceAdd, Int.reduceSub, Nat.reduceBEq, decide_true, decide_false, undef, beq_self_eq_true, bne_self_eq_false, Bool.and_true, Bool.true_and, Bool.and_false, Bool.false_and, Bool.or_true, Bool.true_or, Bool.or_false, Bool.false_or, undef, h7, List.length_map, n0, t1, w0]
      exact ⟨hs, n, _, hg, rfl, rfl, rfl, rfl, rfl, rfl, rfl, rfl, rfl⟩
  rintro ⟨env, σ, df, k⟩ ⟨hs, n, hh, hg, q2, q5, q6, q8, q9, q10, hσ, hdf, hk⟩
  simp only at q2 q5 q6 q8 q9 q10 hσ hdf hk
  subst hσ hdf hk
  have hnn := (List.getElem?_eq_some_iff.1 hg).1
  have hho := hs.huts _ (List.mem_of_getElem? hg)
  have hr6 : 0 ≤ hh.row ∧ hh.row < 6 := ⟨hho.2.2.2.2.1, by have := hho.2.2.2.2.2; have := hs.rows; omega⟩
  have hnw := hs.nw
  have hmw : min 3 s.water.length ≤ s.water.length := by omega
  have hm33 : min 3 s.water.length ≤ 3 := by omega
  generalize min 3 s.water.length = N at *
  have hwl := Nat.le_trans (waysP_le hs N hmw hm33) (pow16 (n := N) hm33)
  refine awpL_chop 2 (c1 := ?b1) (c2 := ?b2) (EnMid2 s n N (rowsA (posQ s hh) N (waysP s N) 0) (lostA (posQ s hh) N (waysP s N) 0) (acc (floQ s hh) N (waysP s N) 0) (acc (noQ s hh) N (waysP s N) 0)) ?hc2 ?_ ?_
  case hc2 => simp only [chop]; rfl
  · simp only [go_sem, Nat.reduceEqDiff, Nat.reduceAdd, Nat.reduceSub, Nat.reduceMul, Nat.reduceLT, Nat.reduceLeDiff, Nat.reduceMod, Nat.reduceDiv, Int.reduceToNat, Int.reduceLT, Int.reduceLE, Bool.not_true, Bool.not_false, reduceIte, Int.reduceEq, Int.reduceBEq, Int.reduceBNe, Int.reduceGT, Int.reduceGE, Int.reduceNeg, Int.reduceAdd, Int.reduceSub, Nat.reduceBEq, decide_true, decide_false, undef, beq_self_eq_true, bne_self_eq_false, Bool.and_true, Bool.true_and, Bool.and_false, Bool.false_and, Bool.or_true, Bool.true_or, Bool.or_false, Bool.false_or, undef, q2, q5, q6, q8, q9, q10]
    have hPl : ∀ w i, i < N → posQ s hh w i ≤ 6 := fun w i _ => by
      unfold posQ
      have := runP_le s hh (osW s w (i + 1))
      omega
    generalize hWN : waysP s N = W at *
    refine awpL_for (i := 91) (L := 90) W (fun j st => st = { env := [(91, .t (vi j)), (90, .t (vi W)), (2, .ptr 0 0), (5, .t (vi N)), (8, .t (vi n)), (9, .ptr 1 0), (10, .ptr 2 0), (11, .t (vi (acc (floQ s hh) N j 0 : Nat))), (12, .t (vi (acc (noQ s hh) N j 0 : Nat)))], σ := [.cells ((su5 s).map .t), rowI (rowsA (posQ s hh) N j 0), rowB (lostA (posQ s hh) N j 0)] }) ?_ ⟨_, Sub.gc [0, 1, 2] [91, 90, 2, 5, 8, 9, 10, 11, 12] rfl rfl, ?_⟩ ?_ ?_
    · rintro k st rfl; exact ⟨rfl, rfl⟩
    · rw [acc_nil, acc_nil, rowsA_nil, lostA_nil]
      exact St.gc_mk (by simp only [List.map_cons, List.map_nil, lk, Nat.reduceEqDiff, reduceIte, q2, q5, q6, q8, q9, q10]; rfl) rfl rfl rfl
    · rintro j st hj rfl
      have hwj : IntKind.i64.wrap ((j : Int) + 1) = ((j + 1 : Nat) : Int) := by rw [wrap_id (by omega) (by omega)]; omega
      simp only [su5, go_sem, Nat.reduceEqDiff, Nat.reduceAdd, Nat.reduceSub, Nat.reduceMul, Nat.reduceLT, Nat.reduceLeDiff, Nat.reduceMod, Nat.reduceDiv, Int.reduceToNat, Int.reduceLT, Int.reduceLE, Bool.not_true, Bool.not_false, reduceIte, Int.reduceEq, Int.reduceBEq, Int.reduceBNe, Int.reduceGT, Int.reduceGE, Int.reduceNeg, Int.reduceAdd, Int.reduceSub, Nat.reduceBEq, decide_true, decide_false, undef, beq_self_eq_true, bne_self_eq_false, Bool.and_true, Bool.true_and, Bool.and_false, Bool.false_and, Bool.or_true, Bool.true_or, Bool.or_false, Bool.false_or, undef]
      refine awpL_for (i := 95) (L := 94) N (fun k st => st = { env := [(95, .t (vi k)), (94, .t (vi N)), (91, .t (vi j)), (90, .t (vi W)), (2, .ptr 0 0), (5, .t (vi N)), (8, .t (vi n)), (9, .ptr 1 0), (10, .ptr 2 0), (11, .t (vi (acc (floQ s hh) N j 0 : Nat))), (12, .t (vi (acc (noQ s hh) N j 0 : Nat))), (13, .t (vi (resW s j k : Nat))), (14, .loc 3 (osW s j k).length), (15, .loc 4 (osW s j k).length)], σ := [.cells ((su5 s).map .t), rowI (rowsA (posQ s hh) N j 0), rowB (lostA (posQ s hh) N j 0), .row 1 (((osW s j k).map fun o : Hour => vi o.1).map .t), .row 1 (((osW s j k).map fun o : Hour => vi o.2).map .t)] }) ?_
        ⟨_, (Sub.ghost 14 1 (by decide) rfl).trans ((Sub.ghost 15 1 (by decide) rfl).trans (Sub.gc [0, 1, 2, 3, 4] [95, 94, 91, 90, 2, 5, 8, 9, 10, 11, 12, 13, 14, 15] rfl rfl)), ?_⟩ ?_ ?_
      · rintro k st rfl; exact ⟨rfl, rfl⟩
      · exact St.gc_mk rfl (by
          show [AO.cells _, AO.cells ((List.map E.t _).map (E.gc _ _ _)), AO.cells ((List.map E.t _).map (E.gc _ _ _)), AO.row 1 _, AO.row 1 _] = _
          rw [gc_row, gc_row]
          rfl) rfl rfl
      · rintro k st hk rfl
        have hwk : IntKind.i64.wrap ((k : Int) + 1) = ((k + 1 : Nat) : Int) := by rw [wrap_id (by omega) (by omega)]; omega
        obtain ⟨hx, hy, b1, b2⟩ := at_near hs (show k < s.water.length by omega)
        obtain ⟨p1, p2, p3, p4, p5, p6⟩ := wn_is hs (show k < s.water.length by omega)
        have hW : resW s j (k + 1) = resW s j k / wn s k / vn s k := rfl
        have hO : osW s j (k + 1) = osW s j k ++ [hoW s j k] := osW_succ s j k
        have hl : (osW s j k).length = k := osW_len s j k
        have hH : hoW s j k = ((s.water.getD k (0, 0)).1 + (resW s j k % wn s k : Nat), (s.waves.getD k (0, 0)).1 + (resW s j k / wn s k % vn s k : Nat)) := rfl
        have hrl : resW s j k ≤ 5000 := by
          have : ∀ i, resW s j i ≤ j := fun i => by
            induction i with
            | zero => exact Nat.le_refl _
            | succ i ih => exact Nat.le_trans (Nat.div_le_self _ _) (Nat.le_trans (Nat.div_le_self _ _) ih)
          have := this k
          omega
        generalize resW s j (k + 1) = r2 at *
        generalize osW s j (k + 1) = O2 at *
        generalize hoW s j k = o at *
        generalize resW s j k = r at *
        generalize osW s j k = O at *
        generalize wn s k = a at *
        generalize vn s k = b at *
        generalize s.water.getD k (0, 0) = x at *
        generalize s.waves.getD k (0, 0) = y at *
        obtain ⟨xl, xh⟩ := x
        obtain ⟨yl, yh⟩ := y
        unfold Near at b1 b2
        simp only at b1 b2 p5 p6 hH
        have m1 : r % a < a := Nat.mod_lt _ (by omega)
        have m2 : r / a % b < b := Nat.mod_lt _ (by omega)
        have hra : r / a ≤ 5000 := Nat.le_trans (Nat.div_le_self _ _) hrl
        have hrb : r / a / b ≤ 5000 := Nat.le_trans (Nat.div_le_self _ _) hra
        have a1 : IntKind.i64.wrap (xh - xl) = xh - xl := wrap_id (by omega) (by omega)
        have a2 : IntKind.i64.wrap (xh - xl + 1) = (a : Int) := by rw [p5]; exact wrap_id (by omega) (by omega)
        have a3 : IntKind.i64.wrap (yh - yl) = yh - yl := wrap_id (by omega) (by omega)
        have a4 : IntKind.i64.wrap (yh - yl + 1) = (b : Int) := by rw [p6]; exact wrap_id (by omega) (by omega)
        have z1 : ¬ ((a : Int) = 0) := by omega
        have z2 : ¬ ((b : Int) = 0) := by omega
        have d1 : ((r : Nat) : Int).tmod (a : Int) = ((r % a : Nat) : Int) := mod_nat r a
        have d2 : ((r / a : Nat) : Int).tmod (b : Int) = ((r / a % b : Nat) : Int) := mod_nat _ b
        have d3 : IntKind.i64.wrap (((r : Nat) : Int).tdiv (a : Int)) = ((r / a : Nat) : Int) := wrap_tdiv r a hrl
        have d4 : IntKind.i64.wrap (((r / a : Nat) : Int).tdiv (b : Int)) = ((r / a / b : Nat) : Int) := wrap_tdiv _ b hra
        have e1 : IntKind.i64.wrap (xl + ((r % a : Nat) : Int)) = o.1 := by rw [hH]; exact wrap_id (by omega) (by omega)
        have e2 : IntKind.i64.wrap (yl + ((r / a % b : Nat) : Int)) = o.2 := by rw [hH]; exact wrap_id (by omega) (by omega)
        simp only [su5, go_sem, Nat.reduceEqDiff, Nat.reduceAdd, Nat.reduceSub, Nat.reduceMul, Nat.reduceLT, Nat.reduceLeDiff, Nat.reduceMod, Nat.reduceDiv, Int.reduceToNat, Int.reduceLT, Int.reduceLE, Bool.not_true, Bool.not_false, reduceIte, Int.reduceEq, Int.reduceBEq, Int.reduceBNe, Int.reduceGT, Int.reduceGE, Int.reduceNeg, Int.reduceAdd, Int.reduceSub, Nat.reduceBEq, decide_true, decide_false, undef, beq_self_eq_true, bne_self_eq_false, Bool.and_true, Bool.true_and, Bool.and_false, Bool.false_and, Bool.or_true, Bool.true_or, Bool.or_false, Bool.false_or, undef, List.length_map, List.getElem?_map, hx, hy, Option.map_some, tSp]
        refine AndL.mk ?_ ?_
        all_goals
          simp only [su5, go_sem, Nat.reduceEqDiff, Nat.reduceAdd, Nat.reduceSub, Nat.reduceMul, Nat.reduceLT, Nat.reduceLeDiff, Nat.reduceMod, Nat.reduceDiv, Int.reduceToNat, Int.reduceLT, Int.reduceLE, Bool.not_true, Bool.not_false, reduceIte, Int.reduceEq, Int.reduceBEq, Int.reduceBNe, Int.reduceGT, Int.reduceGE, Int.reduceNeg, Int.reduceAdd, Int.reduceSub, Nat.reduceBEq, decide_true, decide_false, undef, beq_self_eq_true, bne_self_eq_false, Bool.and_true, Bool.true_and, Bool.and_false, Bool.false_and, Bool.or_true, Bool.true_or, Bool.or_false, Bool.false_or, undef, List.length_map, List.getElem?_map, hx, hy, Option.map_some, tSp, a1, a2, a3, a4, z1, z2, d1, d2, d3, d4, e1, e2, hwk, hl]
          refine ⟨⟨by unfold maxLen; omega, by omega⟩, ⟨by unfold maxLen; omega, by omega⟩, _, Sub.gc [0, 1, 2, 3, 4] [95, 94, 91, 90, 2, 5, 8, 9, 10, 11, 12, 13, 14, 15] rfl rfl, ?_⟩
          rw [hW, hO, List.length_append, List.length_singleton, hl, List.map_append, List.map_append, List.map_append, List.map_append]
          exact St.gc_mk rfl (by
            show [AO.cells _, AO.cells ((List.map E.t _).map (E.gc _ _ _)), AO.cells ((List.map E.t _).map (E.gc _ _ _)), AO.row 1 ((List.map E.t _ ++ List.map E.t [_]).map (E.gc _ _ _)), AO.row 1 ((List.map E.t _ ++ List.map E.t [_]).map (E.gc _ _ _))] = _
            rw [List.map_append, List.map_append, gc_row, gc_row, gc_row, gc_row, gc_row, gc_row]
            rfl) rfl rfl
      · rintro st rfl
        have hob : ∀ o ∈ osW s j N, 0 ≤ o.1 ∧ o.1 ≤ 30 ∧ 0 ≤ o.2 ∧ o.2 ≤ 10 := fun o ho => Tr_bnd hs (osW_Tr hs j hmw) (by rw [osW_len]; omega) ho
        have hol : (osW s j N).length = N := osW_len s j N
        have h35 := followL_ok s hs hh hho (osW s j N) (by omega) hob
        rw [hol, rowsL_W, floL_W] at h35
        generalize osW s j N = O at *
        have hP6 := fun i hi => hPl j i hi
        have hgc : ∀ (σ : List AO) (f : Hour → Int) (id : Nat), pos? [0, 1, 2] id = none → σ[id]? = some (.row 1 ((O.map fun o => vi (f o)).map .t)) → E.gc [0, 1, 2] σ 12 (.loc id O.length) = .t (tI (O.map f)) := fun σ f id hp h => by
          rw [gc_loc (n := 10) (xs := O.map fun o => vi (f o)) hp h (by simp)]
          show _ = E.t (.slice 1 ((O.map f).map fun z : Int => vi z))
          rw [List.map_map]; rfl
        simp only [su5, go_sem, Nat.reduceEqDiff, Nat.reduceAdd, Nat.reduceSub, Nat.reduceMul, Nat.reduceLT, Nat.reduceLeDiff, Nat.reduceMod, Nat.reduceDiv, Int.reduceToNat, Int.reduceLT, Int.reduceLE, Bool.not_true, Bool.not_false, reduceIte, Int.reduceEq, Int.reduceBEq, Int.reduceBNe, Int.reduceGT, Int.reduceGE, Int.reduceNeg, Int.reduceAdd, Int.reduceSub, Nat.reduceBEq, decide_true, decide_false, undef, beq_self_eq_true, bne_self_eq_false, Bool.and_true, Bool.true_and, Bool.and_false, Bool.false_and, Bool.or_true, Bool.true_or, Bool.or_false, Bool.false_or, undef]
        refine awpL_gcpE [0, 1, 2] [14, 15, 91, 90, 2, 5, 8, 9, 10, 11, 12] { env := [(14, .t (tI (O.map (·.1)))), (15, .t (tI (O.map (·.2)))), (91, .t (vi j)), (90, .t (vi W)), (2, .ptr 0 0), (5, .t (vi N)), (8, .t (vi n)), (9, .ptr 1 0), (10, .ptr 2 0), (11, .t (vi (acc (floQ s hh) N j 0 : Nat))), (12, .t (vi (acc (noQ s hh) N j 0 : Nat)))], σ := [.cells ((su5 s).map .t), rowI (rowsA (posQ s hh) N j 0), rowB (lostA (posQ s hh) N j 0)], df := [], k := 0 } ?_ rfl rfl ?_
        · refine St.gc_mk ?_ ?_ rfl rfl
          · simp only [List.map_cons, List.map_nil, lk, Nat.reduceEqDiff, reduceIte]
            rw [hgc _ (·.1) 3 rfl rfl, hgc _ (·.2) 4 rfl rfl]
            rfl
          · show [AO.cells _, AO.cells ((List.map E.t _).map (E.gc _ _ _)), AO.cells ((List.map E.t _).map (E.gc _ _ _))] = _
            rw [gc_row, gc_row]
            rfl
        simp only [su5, tHu] at h35
        simp only [su5, go_sem, Nat.reduceEqDiff, Nat.reduceAdd, Nat.reduceSub, Nat.reduceMul, Nat.reduceLT, Nat.reduceLeDiff, Nat.reduceMod, Nat.reduceDiv, Int.reduceToNat, Int.reduceLT, Int.reduceLE, Bool.not_true, Bool.not_false, reduceIte, Int.reduceEq, Int.reduceBEq, Int.reduceBNe, Int.reduceGT, Int.reduceGE, Int.reduceNeg, Int.reduceAdd, Int.reduceSub, Nat.reduceBEq, decide_true, decide_false, undef, beq_self_eq_true, bne_self_eq_false, Bool.and_true, Bool.true_and, Bool.and_false, Bool.false_and, Bool.or_true, Bool.true_or, Bool.or_false, Bool.false_or, undef, List.length_map, List.getElem?_map, hg, Option.map_some, tHu]
        refine ACallL.fresh1 h35 rfl ?_
        simp only [su5, go_sem, Nat.reduceEqDiff, Nat.reduceAdd, Nat.reduceSub, Nat.reduceMul, Nat.reduceLT, Nat.reduceLeDiff, Nat.reduceMod, Nat.reduceDiv, Int.reduceToNat, Int.reduceLT, Int.reduceLE, Bool.not_true, Bool.not_false, reduceIte, Int.reduceEq, Int.reduceBEq, Int.reduceBNe, Int.reduceGT, Int.reduceGE, Int.reduceNeg, Int.reduceAdd, Int.reduceSub, Nat.reduceBEq, decide_true, decide_false, undef, beq_self_eq_true, bne_self_eq_false, Bool.and_true, Bool.true_and, Bool.and_false, Bool.false_and, Bool.or_true, Bool.true_or, Bool.or_false, Bool.false_or, undef, List.length_map, List.length_range, List.getElem?_map, hg, Option.map_some, tHu]
        refine awpL_for (i := 167) (L := 166) N (fun k st => st = { env := [(167, .t (vi k)), (166, .t (vi N)), (165, .t (tI ((List.range N).map fun i => (posQ s hh j i : Int) - 1))), (20, .t (tB ((List.range N).map (floQ s hh j)))), (91, .t (vi j)), (90, .t (vi W)), (2, .ptr 0 0), (5, .t (vi N)), (8, .t (vi n)), (9, .ptr 1 0), (10, .ptr 2 0), (11, .t (vi (acc (floQ s hh) N j k : Nat))), (12, .t (vi (acc (noQ s hh) N j k : Nat)))], σ := [.cells ((su5 s).map .t), rowI (rowsA (posQ s hh) N j k), rowB (lostA (posQ s hh) N j k)] }) ?_
          ⟨_, Sub.gc [0, 1, 2] [167, 166, 165, 20, 91, 90, 2, 5, 8, 9, 10, 11, 12] rfl rfl, ?_⟩ ?_ ?_
        · rintro k st rfl; exact ⟨rfl, rfl⟩
        · exact St.gc_mk rfl (by
            show [AO.cells _, AO.cells ((List.map E.t _).map (E.gc _ _ _)), AO.cells ((List.map E.t _).map (E.gc _ _ _))] = _
            rw [gc_row, gc_row]
            rfl) rfl rfl
        · rintro k st hk rfl
          have hwk : IntKind.i64.wrap ((k : Int) + 1) = ((k + 1 : Nat) : Int) := by rw [wrap_id (by omega) (by omega)]; omega
          have A1 := acc_step (floQ s hh) (n := N) (j := j) hk
          have A2 := acc_step (noQ s hh) (n := N) (j := j) hk
          have hno : noQ s hh j k = !floQ s hh j k := rfl
          have hP6k := hP6 k hk
          have l1 := acc_lt (floQ s hh) N j k
          have l2 := acc_lt (noQ s hh) N j k
          have l3 := rowC_lt (posQ s hh) N j k k
          have hp : 2 ^ N ≤ 8 := Nat.pow_le_pow_right (n := 2) (j := 3) (by decide) hm33
          have hpk : 2 ^ k ≤ 8 := Nat.pow_le_pow_right (n := 2) (j := 3) (by decide) (by omega)
          have s1 := shl_one (i := k) (by omega)
          have hkn : ((k : Int) < 0) = False := by simp
          have o1 := bits_or (a := acc (floQ s hh) N j k) (b := 2 ^ k) (by omega) (by omega)
          have o2 := bits_or (a := acc (noQ s hh) N j k) (b := 2 ^ k) (by omega) (by omega)
          have hrl := rowsA_len (posQ s hh) N j k
          have hll := lostA_len (posQ s hh) N j k
          have hrg := rowsA_get (posQ s hh) N j k (show k < 3 by omega)
          have hk3 : ((k : Int) < 3) := by omega
          have spN : ∀ (l : List Nat) (v : Nat), k < l.length → List.take k ((l.map fun z : Nat => vi z).map E.t) ++ [E.t (vi v)] ++ List.drop (k + 1) ((l.map fun z : Nat => vi z).map E.t) = ((l.set k v).map fun z : Nat => vi z).map E.t := fun l v h => by
            rw [List.map_set, List.map_set, List.set_eq_take_append_cons_drop, if_pos (by simpa using h), List.append_assoc]; rfl
          have spB : ∀ (l : List Bool) (v : Bool), k < l.length → List.take k ((l.map fun z : Bool => vb z).map E.t) ++ [E.t (vb v)] ++ List.drop (k + 1) ((l.map fun z : Bool => vb z).map E.t) = ((l.set k v).map fun z : Bool => vb z).map E.t := fun l v h => by
            rw [List.map_set, List.map_set, List.set_eq_take_append_cons_drop, if_pos (by simpa using h), List.append_assoc]; rfl
          simp only [su5, go_sem, Nat.reduceEqDiff, Nat.reduceAdd, Nat.reduceSub, Nat.reduceMul, Nat.reduceLT, Nat.reduceLeDiff, Nat.reduceMod, Nat.reduceDiv, Int.reduceToNat, Int.reduceLT, Int.reduceLE, Bool.not_true, Bool.not_false, reduceIte, Int.reduceEq, Int.reduceBEq, Int.reduceBNe, Int.reduceGT, Int.reduceGE, Int.reduceNeg, Int.reduceAdd, Int.reduceSub, Nat.reduceBEq, decide_true, decide_false, undef, beq_self_eq_true, bne_self_eq_false, Bool.and_true, Bool.true_and, Bool.and_false, Bool.false_and, Bool.or_true, Bool.true_or, Bool.or_false, Bool.false_or, undef, List.length_map, List.length_range, List.getElem?_map, List.getElem?_range hk, Option.map_some]
          cases hQ : posQ s hh j k with
          | zero =>
            have hlt : decide (((0 : Nat) : Int) - 1 < 0) = true := rfl
            have hrz := rowsA_zero (posQ s hh) (n := N) hQ
            have hlz := lostA_zero (posQ s hh) hk hm33 hQ
            have sp := spB (lostA (posQ s hh) N j k) true (by omega)
            rw [hlz] at sp
            have hk2 : k ≤ 2 := by omega
            cases hfl : floQ s hh j k
            · rw [hfl] at A1 hno
              rw [hno] at A2
              simp only [Bool.not_false, Bool.not_true, if_true, if_false, Bool.false_eq_true] at A1 A2
              simp only [su5, go_sem, Nat.reduceEqDiff, Nat.reduceAdd, Nat.reduceSub, Nat.reduceMul, Nat.reduceLT, Nat.reduceLeDiff, Nat.reduceMod, Nat.reduceDiv, Int.reduceToNat, Int.reduceLT, Int.reduceLE, Bool.not_true, Bool.not_false, reduceIte, Int.reduceEq, Int.reduceBEq, Int.reduceBNe, Int.reduceGT, Int.reduceGE, Int.reduceNeg, Int.reduceAdd, Int.reduceSub, Nat.reduceBEq, decide_true, decide_false, undef, beq_self_eq_true, bne_self_eq_false, Bool.and_true, Bool.true_and, Bool.and_false, Bool.false_and, Bool.or_true, Bool.true_or, Bool.or_false, Bool.false_or, undef, List.length_map, List.length_range, List.getElem?_map, List.getElem?_range hk, Option.map_some, hlt, hfl, hk2, hk3, hkn, s1, o2, sp, hll, hrl, Nat.mul_one, hwk]
              refine ⟨_, Sub.gc [0, 1, 2] [167, 166, 165, 20, 91, 90, 2, 5, 8, 9, 10, 11, 12] rfl rfl, ?_⟩
              rw [A1, A2, hrz]
              exact St.gc_mk rfl (by
                show [AO.cells _, AO.cells ((List.map E.t _).map (E.gc _ _ _)), AO.cells ((List.map E.t _).map (E.gc _ _ _))] = _
                rw [gc_row, gc_row]
                rfl) rfl rfl
            · rw [hfl] at A1 hno
              rw [hno] at A2
              simp only [Bool.not_false, Bool.not_true, if_true, if_false, Bool.false_eq_true] at A1 A2
              simp only [su5, go_sem, Nat.reduceEqDiff, Nat.reduceAdd, Nat.reduceSub, Nat.reduceMul, Nat.reduceLT, Nat.reduceLeDiff, Nat.reduceMod, Nat.reduceDiv, Int.reduceToNat, Int.reduceLT, Int.reduceLE, Bool.not_true, Bool.not_false, reduceIte, Int.reduceEq, Int.reduceBEq, Int.reduceBNe, Int.reduceGT, Int.reduceGE, Int.reduceNeg, Int.reduceAdd, Int.reduceSub, Nat.reduceBEq, decide_true, decide_false, undef, beq_self_eq_true, bne_self_eq_false, Bool.and_true, Bool.true_and, Bool.and_false, Bool.false_and, Bool.or_true, Bool.true_or, Bool.or_false, Bool.false_or, undef, List.length_map, List.length_range, List.getElem?_map, List.getElem?_range hk, Option.map_some, hlt, hfl, hk2, hk3, hkn, s1, o1, sp, hll, hrl, Nat.mul_one, hwk]
              refine ⟨_, Sub.gc [0, 1, 2] [167, 166, 165, 20, 91, 90, 2, 5, 8, 9, 10, 11, 12] rfl rfl, ?_⟩
              rw [A1, A2, hrz]
              exact St.gc_mk rfl (by
                show [AO.cells _, AO.cells ((List.map E.t _).map (E.gc _ _ _)), AO.cells ((List.map E.t _).map (E.gc _ _ _))] = _
                rw [gc_row, gc_row]
                rfl) rfl rfl
          | succ r =>
            have hk2 : k ≤ 2 := by omega
            have hr6' : r < 6 := by omega
            have hrI : ((r + 1 : Nat) : Int) - 1 = (r : Int) := by omega
            have hlt : decide ((r : Int) < 0) = false := by simp
            have hrn : ((r : Int) < 0) = False := by simp
            have hrs := rowsA_succ (posQ s hh) hk hm33 hr6' hQ
            have hls := lostA_succ (posQ s hh) (n := N) hQ
            have sr := shl_one (i := r) (by omega)
            have hpr : 2 ^ r ≤ 32 := Nat.pow_le_pow_right (n := 2) (j := 5) (by decide) (by omega)
            have o3 := bits_or (a := rowC (posQ s hh) N j k k) (b := 2 ^ r) (by omega) (by omega)
            have sp := spN (rowsA (posQ s hh) N j k) (rowC (posQ s hh) N j k k ||| 2 ^ r) (by omega)
            rw [hrs] at sp
            cases hfl : floQ s hh j k
            · rw [hfl] at A1 hno
              rw [hno] at A2
              simp only [Bool.not_false, Bool.not_true, if_true, if_false, Bool.false_eq_true] at A1 A2
              simp only [su5, go_sem, Nat.reduceEqDiff, Nat.reduceAdd, Nat.reduceSub, Nat.reduceMul, Nat.reduceLT, Nat.reduceLeDiff, Nat.reduceMod, Nat.reduceDiv, Int.reduceToNat, Int.reduceLT, Int.reduceLE, Bool.not_true, Bool.not_false, reduceIte, Int.reduceEq, Int.reduceBEq, Int.reduceBNe, Int.reduceGT, Int.reduceGE, Int.reduceNeg, Int.reduceAdd, Int.reduceSub, Nat.reduceBEq, decide_true, decide_false, undef, beq_self_eq_true, bne_self_eq_false, Bool.and_true, Bool.true_and, Bool.and_false, Bool.false_and, Bool.or_true, Bool.true_or, Bool.or_false, Bool.false_or, undef, List.length_map, List.length_range, List.getElem?_map, List.getElem?_range hk, Option.map_some, hlt, hfl, hk2, hk3, hkn, s1, o2, sp, hll, hrl, Nat.mul_one, hwk, hrI, hrn, sr, o3, hrg]
              refine ⟨_, Sub.gc [0, 1, 2] [167, 166, 165, 20, 91, 90, 2, 5, 8, 9, 10, 11, 12] rfl rfl, ?_⟩
              rw [A1, A2, hls]
              exact St.gc_mk rfl (by
                show [AO.cells _, AO.cells ((List.map E.t _).map (E.gc _ _ _)), AO.cells ((List.map E.t _).map (E.gc _ _ _))] = _
                rw [gc_row, gc_row]
                rfl) rfl rfl
            · rw [hfl] at A1 hno
              rw [hno] at A2
              simp only [Bool.not_false, Bool.not_true, if_true, if_false, Bool.false_eq_true] at A1 A2
              simp only [su5, go_sem, Nat.reduceEqDiff, Nat.reduceAdd, Nat.reduceSub, Nat.reduceMul, Nat.reduceLT, Nat.reduceLeDiff, Nat.reduceMod, Nat.reduceDiv, Int.reduceToNat, Int.reduceLT, Int.reduceLE, Bool.not_true, Bool.not_false, reduceIte, Int.reduceEq, Int.reduceBEq, Int.reduceBNe, Int.reduceGT, Int.reduceGE, Int.reduceNeg, Int.reduceAdd, Int.reduceSub, Nat.reduceBEq, decide_true, decide_false, undef, beq_self_eq_true, bne_self_eq_false, Bool.and_true, Bool.true_and, Bool.and_false, Bool.false_and, Bool.or_true, Bool.true_or, Bool.or_false, Bool.false_or, undef, List.length_map, List.length_range, List.getElem?_map, List.getElem?_range hk, Option.map_some, hlt, hfl, hk2, hk3, hkn, s1, o1, sp, hll, hrl, Nat.mul_one, hwk, hrI, hrn, sr, o3, hrg]
              refine ⟨_, Sub.gc [0, 1, 2] [167, 166, 165, 20, 91, 90, 2, 5, 8, 9, 10, 11, 12] rfl rfl, ?_⟩
              rw [A1, A2, hls]
              exact St.gc_mk rfl (by
                show [AO.cells _, AO.cells ((List.map E.t _).map (E.gc _ _ _)), AO.cells ((List.map E.t _).map (E.gc _ _ _))] = _
                rw [gc_row, gc_row]
                rfl) rfl rfl
        · rintro st rfl
          simp only [su5, go_sem, Nat.reduceEqDiff, Nat.reduceAdd, Nat.reduceSub, Nat.reduceMul, Nat.reduceLT, Nat.reduceLeDiff, Nat.reduceMod, Nat.reduceDiv, Int.reduceToNat, Int.reduceLT, Int.reduceLE, Bool.not_true, Bool.not_false, reduceIte, Int.reduceEq, Int.reduceBEq, Int.reduceBNe, Int.reduceGT, Int.reduceGE, Int.reduceNeg, Int.reduceAdd, Int.reduceSub, Nat.reduceBEq, decide_true, decide_false, undef, beq_self_eq_true, bne_self_eq_false, Bool.and_true, Bool.true_and, Bool.and_false, Bool.false_and, Bool.or_true, Bool.true_or, Bool.or_false, Bool.false_or, undef, hwj]
          refine ⟨_, Sub.gc [0, 1, 2] [91, 90, 2, 5, 8, 9, 10, 11, 12] rfl rfl, ?_⟩
          rw [← acc_end, ← acc_end, ← rowsA_end, ← lostA_end]
          exact St.gc_mk rfl (by
            show [AO.cells _, AO.cells ((List.map E.t _).map (E.gc _ _ _)), AO.cells ((List.map E.t _).map (E.gc _ _ _))] = _
            rw [gc_row, gc_row]
            rfl) rfl rfl
    · rintro st rfl
      simp only [go_sem, Nat.reduceEqDiff, Nat.reduceAdd, Nat.reduceSub, Nat.reduceMul, Nat.reduceLT, Nat.reduceLeDiff, Nat.reduceMod, Nat.reduceDiv, Int.reduceToNat, Int.reduceLT, Int.reduceLE, Bool.not_true, Bool.not_false, reduceIte, Int.reduceEq, Int.reduceBEq, Int.reduceBNe, Int.reduceGT, Int.reduceGE, Int.reduceNeg, Int.reduceAdd, Int.reduceSub, Nat.reduceBEq, decide_true, decide_false, undef, beq_self_eq_true, bne_self_eq_false, Bool.and_true, Bool.true_and, Bool.and_false, Bool.false_and, Bool.or_true, Bool.true_or, Bool.or_false, Bool.false_or, undef]
      exact ⟨rfl, rfl, rfl, rfl, rfl, rfl, rfl, rfl, rfl, rfl⟩
  rintro ⟨env, σ, df, k⟩ ⟨q2, q5, q8, q9, q10, q11, q12, hσ, hdf, hk⟩
  simp only at q2 q5 q8 q9 q10 q11 q12 hσ hdf hk
  subst hσ hdf hk
  have h19 := Floats_ok s hs n hh hg
  have hp : 2 ^ N ≤ 8 := Nat.pow_le_pow_right (n := 2) (j := 3) (by decide) hm33
  have hp1 := Nat.two_pow_pos N
  have hp8 : 2 ^ s.water.length ≤ 256 := Nat.pow_le_pow_right (n := 2) (j := 8) (by decide) hnw
  have l1 : sureM s hh < 2 ^ s.water.length := maskOf_lt (sureB s hh) s.water.length
  have l2 : canM s hh < 2 ^ s.water.length := maskOf_lt (canB s hh) s.water.length
  have l3 := acc_lt (noQ s hh) N (waysP s N) 0
  have s1 := shl_one (i := N) (by omega)
  have hNn : ((N : Int) < 0) = False := by simp
  have w1 : IntKind.i64.wrap (((2 ^ N : Nat) : Int) - 1) = ((2 ^ N - 1 : Nat) : Int) := by rw [wrap_id (by omega) (by omega)]; omega
  have a1 := bits_and (a := canM s hh) (b := 2 ^ N - 1) (by omega) (by omega)
  have a2 := bits_and (a := sureM s hh) (b := 2 ^ N - 1) (by omega) (by omega)
  have a3 := bits_andNot (a := 2 ^ N - 1) (b := acc (noQ s hh) N (waysP s N) 0) (by omega) (by omega)
  rw [can_first hs hr6 hmw] at a1
  rw [sure_first hs hr6 hmw] at a2
  simp only [su5, go_sem, Nat.reduceEqDiff, Nat.reduceAdd, Nat.reduceSub, Nat.reduceMul, Nat.reduceLT, Nat.reduceLeDiff, Nat.reduceMod, Nat.reduceDiv, Int.reduceToNat, Int.reduceLT, Int.reduceLE, Bool.not_true, Bool.not_false, reduceIte, Int.reduceEq, Int.reduceBEq, Int.reduceBNe, Int.reduceGT, Int.reduceGE, Int.reduceNeg, Int.reduceAdd, Int.reduceSub, Nat.reduceBEq, decide_true, decide_false, undef, beq_self_eq_true, bne_self_eq_false, Bool.and_true, Bool.true_and, Bool.and_false, Bool.false_and, Bool.or_true, Bool.true_or, Bool.or_false, Bool.false_or, undef, q2, q5, q8, q9, q10, q11, q12]
  simp only [su5] at h19
  refine ACallL.quiet1 h19 rfl rfl rfl ?_
  simp only [su5, twoE, go_sem, Nat.reduceEqDiff, Nat.reduceAdd, Nat.reduceSub, Nat.reduceMul, Nat.reduceLT, Nat.reduceLeDiff, Nat.reduceMod, Nat.reduceDiv, Int.reduceToNat, Int.reduceLT, Int.reduceLE, Bool.not_true, Bool.not_false, reduceIte, Int.reduceEq, Int.reduceBEq, Int.reduceBNe, Int.reduceGT, Int.reduceGE, Int.reduceNeg, Int.reduceAdd, Int.reduceSub, Nat.reduceBEq, decide_true, decide_false, undef, beq_self_eq_true, bne_self_eq_false, Bool.and_true, Bool.true_and, Bool.and_false, Bool.false_and, Bool.or_true, Bool.true_or, Bool.or_false, Bool.false_or, undef, q2, q5, q8, q9, q10, q11, q12, s1, hNn, w1, a1, a2, a3]
  refine awpL_for (i := 226) (L := 225) N (fun k st => st = { env := [(226, .t (vi k)), (225, .t (vi N)), (2, .ptr 0 0), (8, .t (vi n)), (9, .ptr 1 0), (10, .ptr 2 0)], σ := [.cells ((su5 s).map .t), rowI (rowsA (posQ s hh) N (waysP s N) 0), rowB (lostA (posQ s hh) N (waysP s N) 0)] }) ?_
    ⟨_, Sub.gc [0, 1, 2] [226, 225, 2, 8, 9, 10] rfl rfl, ?_⟩ ?_ ?_
  · rintro k st rfl; exact ⟨rfl, rfl⟩
  · exact St.gc_mk (by simp only [List.map_cons, List.map_nil, lk, Nat.reduceEqDiff, reduceIte, q2, q5, q8, q9, q10]; rfl) (by
      show [AO.cells _, AO.cells ((List.map E.t _).map (E.gc _ _ _)), AO.cells ((List.map E.t _).map (E.gc _ _ _))] = _
      rw [gc_row, gc_row]
      rfl) rfl rfl
  · rintro k st hk rfl
    have hwk : IntKind.i64.wrap ((k : Int) + 1) = ((k + 1 : Nat) : Int) := by rw [wrap_id (by omega) (by omega)]; omega
    have h17 := Rows_ok s hs n hh hg k (by omega)
    rw [row_first hs hr6 hmw hk, lost_first hs hr6 hmw hk] at h17
    have hrg := rowsA_get (posQ s hh) N (waysP s N) 0 (show k < 3 by omega)
    have hlg := lostA_get (posQ s hh) N (waysP s N) 0 (show k < 3 by omega)
    have hrl := rowsA_len (posQ s hh) N (waysP s N) 0
    have hll := lostA_len (posQ s hh) N (waysP s N) 0
    simp only [su5] at h17
    simp only [su5, go_sem, Nat.reduceEqDiff, Nat.reduceAdd, Nat.reduceSub, Nat.reduceMul, Nat.reduceLT, Nat.reduceLeDiff, Nat.reduceMod, Nat.reduceDiv, Int.reduceToNat, Int.reduceLT, Int.reduceLE, Bool.not_true, Bool.not_false, reduceIte, Int.reduceEq, Int.reduceBEq, Int.reduceBNe, Int.reduceGT, Int.reduceGE, Int.reduceNeg, Int.reduceAdd, Int.reduceSub, Nat.reduceBEq, decide_true, decide_false, undef, beq_self_eq_true, bne_self_eq_false, Bool.and_true, Bool.true_and, Bool.and_false, Bool.false_and, Bool.or_true, Bool.true_or, Bool.or_false, Bool.false_or, undef]
    refine ACallL.quiet1 h17 rfl rfl rfl ?_
    have hk3 : ((k : Int) < 3) := by omega
    simp only [su5, rowE, go_sem, Nat.reduceEqDiff, Nat.reduceAdd, Nat.reduceSub, Nat.reduceMul, Nat.reduceLT, Nat.reduceLeDiff, Nat.reduceMod, Nat.reduceDiv, Int.reduceToNat, Int.reduceLT, Int.reduceLE, Bool.not_true, Bool.not_false, reduceIte, Int.reduceEq, Int.reduceBEq, Int.reduceBNe, Int.reduceGT, Int.reduceGE, Int.reduceNeg, Int.reduceAdd, Int.reduceSub, Nat.reduceBEq, decide_true, decide_false, undef, beq_self_eq_true, bne_self_eq_false, Bool.and_true, Bool.true_and, Bool.and_false, Bool.false_and, Bool.or_true, Bool.true_or, Bool.or_false, Bool.false_or, undef, Nat.mul_one, hrg, hlg, hrl, hll, hk3, List.getElem?_map, List.length_map, Option.map_some, hwk]
    refine ⟨_, Sub.gc [0, 1, 2] [226, 225, 2, 8, 9, 10] rfl rfl, ?_⟩
    exact St.gc_mk rfl (by
      show [AO.cells _, AO.cells ((List.map E.t _).map (E.gc _ _ _)), AO.cells ((List.map E.t _).map (E.gc _ _ _))] = _
      rw [gc_row, gc_row]
      rfl) rfl rfl
  · rintro st rfl
    simp only [su5, go_sem, Nat.reduceEqDiff, Nat.reduceAdd, Nat.reduceSub, Nat.reduceMul, Nat.reduceLT, Nat.reduceLeDiff, Nat.reduceMod, Nat.reduceDiv, Int.reduceToNat, Int.reduceLT, Int.reduceLE, Bool.not_true, Bool.not_false, reduceIte, Int.reduceEq, Int.reduceBEq, Int.reduceBNe, Int.reduceGT, Int.reduceGE, Int.reduceNeg, Int.reduceAdd, Int.reduceSub, Nat.reduceBEq, decide_true, decide_false, undef, beq_self_eq_true, bne_self_eq_false, Bool.and_true, Bool.true_and, Bool.and_false, Bool.false_and, Bool.or_true, Bool.true_or, Bool.or_false, Bool.false_or, undef]
    refine ACallL.quiet1 awake_ok rfl rfl rfl ?_
    simp only [go_sem, Nat.reduceEqDiff, Nat.reduceAdd, Nat.reduceSub, Nat.reduceMul, Nat.reduceLT, Nat.reduceLeDiff, Nat.reduceMod, Nat.reduceDiv, Int.reduceToNat, Int.reduceLT, Int.reduceLE, Bool.not_true, Bool.not_false, reduceIte, Int.reduceEq, Int.reduceBEq, Int.reduceBNe, Int.reduceGT, Int.reduceGE, Int.reduceNeg, Int.reduceAdd, Int.reduceSub, Nat.reduceBEq, decide_true, decide_false, undef, beq_self_eq_true, bne_self_eq_false, Bool.and_true, Bool.true_and, Bool.and_false, Bool.false_and, Bool.or_true, Bool.true_or, Bool.or_false, Bool.false_or, undef]
    exact finL_ret [] ⟨rfl, rfl, rfl, rfl, _, rfl, res_mk rfl⟩
end Go.Proofs.YtmahocdmkpigjaaDoor
