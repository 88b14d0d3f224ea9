/- Proved here: laws that the statements need (BoC3, BoC3s, BoT, BoU). No conditions but those that each law states. -/
import Derived.Test.YtafcdpmcmmfbhaaDoorFL
import Derived.Test.YtafcdpmcmmfbhaaDoorProg
import Derived.Test.YtafcdpmcmmfbhaaDoorBF

set_option linter.unusedSimpArgs false
set_option linter.unusedVariables false

/- Compiled code of functions, printed by program; each is checked to be the program's. No conditions. -/
namespace Go.Proofs.YtafcdpmcmmfbhaaDoor
open Go Go.Ab
/-- dipworks/dipworkslaw12.far -/
def c14 : AC :=
 .seq (.reg [⟨(some 1), none, .box (.tmp 0)⟩,
 ⟨(some 2), none, .mov (.lit (.bool false))⟩])
 (.seq (.reg [⟨(some 6), none, .faddr 4 (.tmp 1)⟩,
 ⟨(some 7), none, .load false 1 (.tmp 6)⟩,
 ⟨(some 8), none, .len (.tmp 7)⟩,
 ⟨(some 3), none, .mov (.tmp 8)⟩])
 (.seq (.seq (.reg [⟨(some 9), none, .faddr 4 (.tmp 1)⟩,
 ⟨(some 10), none, .load false 1 (.tmp 9)⟩,
 ⟨(some 11), none, .len (.tmp 10)⟩,
 ⟨(some 12), none, .mov (.lit (.int .i64 0))⟩])
 (.block 0 (.loop (.seq (.reg [⟨(some 13), none, .bin .lss (.tmp 12) (.tmp 11)⟩])
 (.seq (.cond (.tmp 13) (.skip)
 (.exit 0))
 (.seq (.block 1 (.seq (.reg [⟨(some 14), none, .iaddr 1 (.tmp 10) (.tmp 12)⟩,
 ⟨(some 15), none, .load false 1 (.tmp 14)⟩,
 ⟨(some 5), none, .mov (.tmp 15)⟩])
 (.reg [⟨(some 16), none, .mov (.tmp 3)⟩,
 ⟨(some 17), none, .mov (.tmp 5)⟩,
 ⟨(some 18), none, .len (.tmp 17)⟩,
 ⟨(some 19), none, .mxmn true (.tmp 16) [(.tmp 18)]⟩,
 ⟨(some 3), none, .mov (.tmp 19)⟩])))
 (.reg [⟨(some 20), none, .bin .add (.tmp 12) (.lit (.int .i64 1))⟩,
 ⟨(some 12), none, .mov (.tmp 20)⟩])))))))
 (.seq (.reg [⟨(some 21), none, .mov (.tmp 3)⟩,
 ⟨(some 22), none, .bin .gtr (.tmp 21) (.lit (.int .i64 40))⟩,
 ⟨(some 2), none, .mov (.tmp 22)⟩])
 (.ret))))
theorem k14 : FnC Tryd.prog 14 23 [] [] [.tmp 2] c14 1 := ⟨Tryd.f14, _, Tryd.func14, rfl, by decide, rfl, by decide, by kernel_rfl, by kernel_rfl⟩
/-- dipworks/dipworkslaw12.awake -/
def c15 : AC :=
 .seq (.reg [⟨(some 0), none, .mov (.lit (.bool false))⟩])
 (.seq (.reg [⟨(some 22), none, .call (.fn 46) [(.lit (.slice none 0 0))]⟩,
 ⟨(some 1), none, .alloc [(.int .i64 0), (.int .i64 0), (.int .i64 0), (.int .i64 0), (.slice none 0 0)]⟩,
 ⟨none, none, .store 5 (.tmp 1) (.tmp 22)⟩])
 (.seq (.reg [⟨(some 24), none, .load true 5 (.tmp 1)⟩,
 ⟨(some 25), none, .call (.fn 16) [(.tmp 24), (.lit (.int .i64 0)), (.lit (.int .i64 2))]⟩,
 ⟨(some 23), none, .mov (.tmp 25)⟩,
 ⟨(some 26), none, .ext (.tmp 23) 0⟩,
 ⟨(some 27), none, .ext (.tmp 23) 1⟩,
 ⟨(some 2), none, .mov (.tmp 26)⟩,
 ⟨(some 3), none, .mov (.tmp 27)⟩])
 (.seq (.reg [⟨(some 29), none, .load true 5 (.tmp 1)⟩,
 ⟨(some 30), none, .call (.fn 18) [(.tmp 29), (.lit (.int .i64 0)), (.lit (.int .i64 2))]⟩,
 ⟨(some 28), none, .mov (.tmp 30)⟩,
 ⟨(some 31), none, .ext (.tmp 28) 0⟩,
 ⟨(some 32), none, .ext (.tmp 28) 1⟩,
 ⟨(some 4), none, .alloc [(.int .i64 0), (.int .i64 0)]⟩,
 ⟨none, none, .store 2 (.tmp 4) (.tmp 31)⟩,
 ⟨(some 5), none, .mov (.tmp 32)⟩])
 (.seq (.reg [⟨(some 34), none, .load true 5 (.tmp 1)⟩,
 ⟨(some 35), none, .call (.fn 20) [(.tmp 34), (.lit (.int .i64 1))]⟩,
 ⟨(some 33), none, .mov (.tmp 35)⟩,
 ⟨(some 36), none, .ext (.tmp 33) 0⟩,
 ⟨(some 37), none, .ext (.tmp 33) 1⟩,
 ⟨(some 6), none, .alloc [(.int .i64 0), (.int .i64 0)]⟩,
 ⟨none, none, .store 2 (.tmp 6) (.tmp 36)⟩,
 ⟨(some 7), none, .mov (.tmp 37)⟩])
 (.seq (.reg [⟨(some 39), none, .load true 5 (.tmp 1)⟩,
 ⟨(some 40), none, .call (.fn 22) [(.tmp 39), (.lit (.int .i64 0)), (.lit (.int .i64 2))]⟩,
 ⟨(some 38), none, .mov (.tmp 40)⟩,
 ⟨(some 41), none, .ext (.tmp 38) 0⟩,
 ⟨(some 42), none, .ext (.tmp 38) 1⟩,
 ⟨(some 8), none, .mov (.tmp 41)⟩,
 ⟨(some 9), none, .mov (.tmp 42)⟩])
 (.seq (.reg [⟨(some 44), none, .load true 5 (.tmp 1)⟩,
 ⟨(some 45), none, .call (.fn 24) [(.tmp 44), (.lit (.int .i64 0)), (.lit (.int .i64 1))]⟩,
 ⟨(some 43), none, .mov (.tmp 45)⟩,
 ⟨(some 46), none, .ext (.tmp 43) 0⟩,
 ⟨(some 47), none, .ext (.tmp 43) 1⟩,
 ⟨(some 10), none, .mov (.tmp 46)⟩,
 ⟨(some 11), none, .mov (.tmp 47)⟩])
 (.seq (.reg [⟨(some 49), none, .load true 5 (.tmp 1)⟩,
 ⟨(some 50), none, .call (.fn 26) [(.tmp 49), (.lit (.int .i64 6)), (.lit (.int .i64 16))]⟩,
 ⟨(some 48), none, .mov (.tmp 50)⟩,
 ⟨(some 51), none, .ext (.tmp 48) 0⟩,
 ⟨(some 52), none, .ext (.tmp 48) 1⟩,
 ⟨(some 53), none, .ext (.tmp 48) 2⟩,
 ⟨(some 12), none, .mov (.tmp 51)⟩,
 ⟨(some 13), none, .mov (.tmp 52)⟩,
 ⟨(some 14), none, .mov (.tmp 53)⟩])
 (.seq (.reg [⟨(some 55), none, .load true 5 (.tmp 1)⟩,
 ⟨(some 56), none, .call (.fn 26) [(.tmp 55), (.lit (.int .i64 0)), (.lit (.int .i64 18))]⟩,
 ⟨(some 54), none, .mov (.tmp 56)⟩,
 ⟨(some 57), none, .ext (.tmp 54) 0⟩,
 ⟨(some 58), none, .ext (.tmp 54) 1⟩,
 ⟨(some 59), none, .ext (.tmp 54) 2⟩,
 ⟨(some 15), none, .mov (.tmp 57)⟩,
 ⟨(some 16), none, .mov (.tmp 58)⟩,
 ⟨(some 17), none, .mov (.tmp 59)⟩])
 (.seq (.reg [⟨(some 61), none, .load true 5 (.tmp 1)⟩,
 ⟨(some 62), none, .call (.fn 28) [(.tmp 61), (.lit (.int .i64 0))]⟩,
 ⟨(some 60), none, .mov (.tmp 62)⟩,
 ⟨(some 63), none, .ext (.tmp 60) 0⟩,
 ⟨(some 64), none, .ext (.tmp 60) 1⟩,
 ⟨(some 18), none, .mov (.tmp 63)⟩,
 ⟨(some 19), none, .mov (.tmp 64)⟩])
 (.seq (.reg [⟨(some 66), none, .call (.fn 45) [(.lit (.int .i64 5)), (.lit (.int .i64 5))]⟩,
 ⟨(some 67), none, .call (.fn 45) [(.lit (.int .i64 0)), (.lit (.int .i64 0))]⟩,
 ⟨(some 68), none, .call (.fn 47) [(.lit (.int .i64 5)), (.tmp 66), (.tmp 67)]⟩,
 ⟨(some 69), none, .bslice 5 (.agg #[(.int .i64 0), (.int .i64 0), (.int .i64 0), (.int .i64 0), (.int .i64 0)]) 1 [(0, (.tmp 68))]⟩,
 ⟨(some 70), none, .call (.fn 46) [(.tmp 69)]⟩,
 ⟨(some 71), none, .call (.fn 30) [(.tmp 70), (.lit (.int .i64 0))]⟩,
 ⟨(some 65), none, .mov (.tmp 71)⟩,
 ⟨(some 72), none, .ext (.tmp 65) 0⟩,
 ⟨(some 73), none, .ext (.tmp 65) 1⟩,
 ⟨(some 20), none, .mov (.tmp 72)⟩,
 ⟨(some 21), none, .mov (.tmp 73)⟩])
 (.seq (.seq (.draw (.step ⟨(some 74), none, .mov (.tmp 2)⟩ (
 .step ⟨(some 75), none, .bin .neq (.tmp 74) (.lit (.int .i64 1847296))⟩ (
 .step ⟨(some 76), none, .mov (.tmp 75)⟩ (
 .step ⟨(some 77), (some (76, false)), .mov (.tmp 3)⟩ (
 .step ⟨(some 78), (some (76, false)), .bin .neq (.tmp 77) (.lit (.int .i64 0))⟩ (
 .step ⟨(some 79), none, .pick (.tmp 76) (.lit (.bool true)) (.tmp 78)⟩ (
 .step ⟨(some 80), none, .mov (.tmp 79)⟩ (
 .step ⟨(some 81), (some (80, false)), .load true 2 (.tmp 4)⟩ (
 .ev ⟨(some 82), (some (80, false)), .call (.fn 45) [(.lit (.int .i64 2)), (.lit (.int .i64 3))]⟩ [⟨(some 81), (some (80, false)), .load true 2 (.tmp 4)⟩] (
 .step ⟨(some 83), (some (80, false)), .eqs true [(some .i64), (some .i64)] (.tmp 81) (.tmp 82)⟩ (
 .step ⟨(some 84), none, .pick (.tmp 80) (.lit (.bool true)) (.tmp 83)⟩ (
 .step ⟨(some 85), none, .mov (.tmp 84)⟩ (
 .step ⟨(some 86), (some (85, false)), .mov (.tmp 5)⟩ (
 .step ⟨(some 87), (some (85, false)), .bin .neq (.tmp 86) (.lit (.int .i64 0))⟩ (
 .step ⟨(some 88), none, .pick (.tmp 85) (.lit (.bool true)) (.tmp 87)⟩ (
 .step ⟨(some 89), none, .mov (.tmp 88)⟩ (
 .step ⟨(some 90), (some (89, false)), .load true 2 (.tmp 6)⟩ (
 .ev ⟨(some 91), (some (89, false)), .call (.fn 45) [(.lit (.int .i64 0)), (.lit (.int .i64 1))]⟩ [⟨(some 90), (some (89, false)), .load true 2 (.tmp 6)⟩, ⟨(some 83), (some (80, false)), .eqs true [(some .i64), (some .i64)] (.tmp 81) (.tmp 82)⟩, ⟨(some 81), (some (80, false)), .load true 2 (.tmp 4)⟩] (
 .step ⟨(some 92), (some (89, false)), .eqs true [(some .i64), (some .i64)] (.tmp 90) (.tmp 91)⟩ (
 .step ⟨(some 93), none, .pick (.tmp 89) (.lit (.bool true)) (.tmp 92)⟩ (
 .step ⟨(some 94), none, .mov (.tmp 93)⟩ (
 .step ⟨(some 95), (some (94, false)), .mov (.tmp 7)⟩ (
 .step ⟨(some 96), (some (94, false)), .bin .neq (.tmp 95) (.lit (.int .i64 0))⟩ (
 .step ⟨(some 97), none, .pick (.tmp 94) (.lit (.bool true)) (.tmp 96)⟩ (
 .step ⟨(some 98), none, .mov (.tmp 97)⟩ (
 .step ⟨(some 99), (some (98, false)), .mov (.tmp 8)⟩ (
 .step ⟨(some 100), (some (98, false)), .bin .neq (.tmp 99) (.lit (.int .i64 1))⟩ (
 .step ⟨(some 101), none, .pick (.tmp 98) (.lit (.bool true)) (.tmp 100)⟩ (
 .step ⟨(some 102), none, .mov (.tmp 101)⟩ (
 .step ⟨(some 103), (some (102, false)), .mov (.tmp 9)⟩ (
 .step ⟨(some 104), (some (102, false)), .bin .neq (.tmp 103) (.lit (.int .i64 0))⟩ (
 .step ⟨(some 105), none, .pick (.tmp 102) (.lit (.bool true)) (.tmp 104)⟩ (
 .step ⟨(some 106), none, .mov (.tmp 105)⟩ (
 .step ⟨(some 107), (some (106, false)), .mov (.tmp 10)⟩ (
 .step ⟨(some 108), (some (106, false)), .bin .neq (.tmp 107) (.lit (.int .i64 6))⟩ (
 .step ⟨(some 109), none, .pick (.tmp 106) (.lit (.bool true)) (.tmp 108)⟩ (
 .step ⟨(some 110), none, .mov (.tmp 109)⟩ (
 .step ⟨(some 111), (some (110, false)), .mov (.tmp 11)⟩ (
 .step ⟨(some 112), (some (110, false)), .bin .neq (.tmp 111) (.lit (.int .i64 0))⟩ (
 .step ⟨(some 113), none, .pick (.tmp 110) (.lit (.bool true)) (.tmp 112)⟩ (
 .done)))))))))))))))))))))))
 (.stop))))))))))
 (.stop)))))))))))
 (.cond (.tmp 113) (.seq (.reg [⟨(some 0), none, .mov (.lit (.bool false))⟩])
 (.ret))
 (.skip)))
 (.seq (.reg [⟨(some 114), none, .mov (.tmp 12)⟩,
 ⟨(some 115), none, .bin .eql (.tmp 114) (.lit (.int .i64 0))⟩,
 ⟨(some 116), none, .mov (.tmp 115)⟩,
 ⟨(some 117), (some (116, true)), .mov (.tmp 13)⟩,
 ⟨(some 118), (some (116, true)), .bin .eql (.tmp 117) (.lit (.int .i64 3))⟩,
 ⟨(some 119), none, .pick (.tmp 116) (.tmp 118) (.lit (.bool false))⟩,
 ⟨(some 120), none, .mov (.tmp 119)⟩,
 ⟨(some 121), (some (120, true)), .mov (.tmp 14)⟩,
 ⟨(some 122), (some (120, true)), .bin .eql (.tmp 121) (.lit (.int .i64 0))⟩,
 ⟨(some 123), none, .pick (.tmp 120) (.tmp 122) (.lit (.bool false))⟩,
 ⟨(some 124), none, .mov (.tmp 123)⟩,
 ⟨(some 125), (some (124, true)), .mov (.tmp 15)⟩,
 ⟨(some 126), (some (124, true)), .bin .eql (.tmp 125) (.lit (.int .i64 1))⟩,
 ⟨(some 127), none, .pick (.tmp 124) (.tmp 126) (.lit (.bool false))⟩,
 ⟨(some 128), none, .mov (.tmp 127)⟩,
 ⟨(some 129), (some (128, true)), .mov (.tmp 16)⟩,
 ⟨(some 130), (some (128, true)), .bin .eql (.tmp 129) (.lit (.int .i64 1))⟩,
 ⟨(some 131), none, .pick (.tmp 128) (.tmp 130) (.lit (.bool false))⟩,
 ⟨(some 132), none, .mov (.tmp 131)⟩,
 ⟨(some 133), (some (132, true)), .mov (.tmp 17)⟩,
 ⟨(some 134), (some (132, true)), .bin .eql (.tmp 133) (.lit (.int .i64 0))⟩,
 ⟨(some 135), none, .pick (.tmp 132) (.tmp 134) (.lit (.bool false))⟩,
 ⟨(some 136), none, .mov (.tmp 135)⟩,
 ⟨(some 137), (some (136, true)), .mov (.tmp 18)⟩,
 ⟨(some 138), (some (136, true)), .bin .eql (.tmp 137) (.lit (.int .i64 1))⟩,
 ⟨(some 139), none, .pick (.tmp 136) (.tmp 138) (.lit (.bool false))⟩,
 ⟨(some 140), none, .mov (.tmp 139)⟩,
 ⟨(some 141), (some (140, true)), .mov (.tmp 19)⟩,
 ⟨(some 142), (some (140, true)), .bin .eql (.tmp 141) (.lit (.int .i64 0))⟩,
 ⟨(some 143), none, .pick (.tmp 140) (.tmp 142) (.lit (.bool false))⟩,
 ⟨(some 144), none, .mov (.tmp 143)⟩,
 ⟨(some 145), (some (144, true)), .mov (.tmp 20)⟩,
 ⟨(some 146), (some (144, true)), .bin .eql (.tmp 145) (.lit (.int .i64 4))⟩,
 ⟨(some 147), none, .pick (.tmp 144) (.tmp 146) (.lit (.bool false))⟩,
 ⟨(some 148), none, .mov (.tmp 147)⟩,
 ⟨(some 149), (some (148, true)), .mov (.tmp 21)⟩,
 ⟨(some 150), (some (148, true)), .bin .eql (.tmp 149) (.lit (.int .i64 0))⟩,
 ⟨(some 151), none, .pick (.tmp 148) (.tmp 150) (.lit (.bool false))⟩,
 ⟨(some 0), none, .mov (.tmp 151)⟩])
 (.ret)))))))))))))
theorem k15 : FnC Tryd.prog 15 152 [] [] [.tmp 0] c15 0 := ⟨Tryd.f15, _, Tryd.func15, rfl, by decide, rfl, by decide, by kernel_rfl, by kernel_rfl⟩
/-- dipworks/dipworkslaw12.fine -/
def c32 : AC :=
 .seq (.reg [⟨(some 1), none, .box (.tmp 0)⟩,
 ⟨(some 2), none, .mov (.lit (.bool false))⟩])
 (.seq (.reg [⟨(some 3), none, .load true 5 (.tmp 1)⟩,
 ⟨(some 4), none, .call (.fn 14) [(.tmp 3)]⟩,
 ⟨(some 5), none, .un .not (.tmp 4)⟩,
 ⟨(some 6), none, .mov (.tmp 5)⟩,
 ⟨(some 7), (some (6, true)), .load true 5 (.tmp 1)⟩,
 ⟨(some 8), (some (6, true)), .call (.fn 36) [(.tmp 7)]⟩,
 ⟨(some 9), none, .pick (.tmp 6) (.tmp 8) (.lit (.bool false))⟩,
 ⟨(some 2), none, .mov (.tmp 9)⟩])
 (.ret))
theorem k32 : FnC Tryd.prog 32 10 [] [] [.tmp 2] c32 1 := ⟨Tryd.f32, _, Tryd.func32, rfl, by decide, rfl, by decide, by kernel_rfl, by kernel_rfl⟩
/-- dipworks/dipworksref12.Boats -/
def c36 : AC :=
 .seq (.reg [⟨(some 1), none, .box (.tmp 0)⟩,
 ⟨(some 2), none, .mov (.lit (.bool false))⟩])
 (.seq (.seq (.reg [⟨(some 7), none, .faddr 0 (.tmp 1)⟩,
 ⟨(some 8), none, .load false 1 (.tmp 7)⟩,
 ⟨(some 9), none, .call (.fn 59) [(.tmp 8), (.lit (.int .i64 1)), (.lit (.int .i64 8))]⟩,
 ⟨(some 10), none, .un .not (.tmp 9)⟩,
 ⟨(some 11), none, .mov (.tmp 10)⟩,
 ⟨(some 12), (some (11, false)), .faddr 1 (.tmp 1)⟩,
 ⟨(some 13), (some (11, false)), .load false 1 (.tmp 12)⟩,
 ⟨(some 14), (some (11, false)), .call (.fn 59) [(.tmp 13), (.lit (.int .i64 1)), (.lit (.int .i64 6))]⟩,
 ⟨(some 15), (some (11, false)), .un .not (.tmp 14)⟩,
 ⟨(some 16), none, .pick (.tmp 11) (.lit (.bool true)) (.tmp 15)⟩,
 ⟨(some 17), none, .mov (.tmp 16)⟩,
 ⟨(some 18), (some (17, false)), .faddr 2 (.tmp 1)⟩,
 ⟨(some 19), (some (17, false)), .load false 1 (.tmp 18)⟩,
 ⟨(some 20), (some (17, false)), .call (.fn 59) [(.tmp 19), (.lit (.int .i64 0)), (.lit (.int .i64 3))]⟩,
 ⟨(some 21), (some (17, false)), .un .not (.tmp 20)⟩,
 ⟨(some 22), none, .pick (.tmp 17) (.lit (.bool true)) (.tmp 21)⟩,
 ⟨(some 23), none, .mov (.tmp 22)⟩,
 ⟨(some 24), (some (23, false)), .faddr 3 (.tmp 1)⟩,
 ⟨(some 25), (some (23, false)), .load false 1 (.tmp 24)⟩,
 ⟨(some 26), (some (23, false)), .call (.fn 59) [(.tmp 25), (.lit (.int .i64 0)), (.lit (.int .i64 12))]⟩,
 ⟨(some 27), (some (23, false)), .un .not (.tmp 26)⟩,
 ⟨(some 28), none, .pick (.tmp 23) (.lit (.bool true)) (.tmp 27)⟩,
 ⟨(some 29), none, .mov (.tmp 28)⟩,
 ⟨(some 30), (some (29, false)), .faddr 4 (.tmp 1)⟩,
 ⟨(some 31), (some (29, false)), .load false 1 (.tmp 30)⟩,
 ⟨(some 32), (some (29, false)), .len (.tmp 31)⟩,
 ⟨(some 33), (some (29, false)), .bin .gtr (.tmp 32) (.lit (.int .i64 4))⟩,
 ⟨(some 34), none, .pick (.tmp 29) (.lit (.bool true)) (.tmp 33)⟩])
 (.cond (.tmp 34) (.seq (.reg [⟨(some 2), none, .mov (.lit (.bool false))⟩])
 (.ret))
 (.skip)))
 (.seq (.seq (.reg [⟨(some 3), none, .mov (.lit (.int .i64 0))⟩])
 (.block 0 (.loop (.seq (.seq (.reg [⟨(some 35), none, .mov (.tmp 3)⟩,
 ⟨(some 36), none, .faddr 4 (.tmp 1)⟩,
 ⟨(some 37), none, .load false 1 (.tmp 36)⟩,
 ⟨(some 38), none, .len (.tmp 37)⟩,
 ⟨(some 39), none, .bin .lss (.tmp 35) (.tmp 38)⟩])
 (.cond (.tmp 39) (.skip)
 (.exit 0)))
 (.seq (.block 1 (.seq (.seq (.reg [⟨(some 42), none, .faddr 4 (.tmp 1)⟩,
 ⟨(some 43), none, .load false 1 (.tmp 42)⟩,
 ⟨(some 44), none, .mov (.tmp 3)⟩,
 ⟨(some 45), none, .iaddr 1 (.tmp 43) (.tmp 44)⟩,
 ⟨(some 46), none, .load false 1 (.tmp 45)⟩,
 ⟨(some 47), none, .len (.tmp 46)⟩,
 ⟨(some 48), none, .bin .gtr (.tmp 47) (.lit (.int .i64 5))⟩])
 (.cond (.tmp 48) (.seq (.reg [⟨(some 2), none, .mov (.lit (.bool false))⟩])
 (.ret))
 (.skip)))
 (.seq (.reg [⟨(some 4), none, .mov (.lit (.int .i64 0))⟩])
 (.seq (.reg [⟨(some 5), none, .mov (.lit (.int .i64 0))⟩])
 (.block 2 (.loop (.seq (.seq (.reg [⟨(some 49), none, .mov (.tmp 5)⟩,
 ⟨(some 50), none, .faddr 4 (.tmp 1)⟩,
 ⟨(some 51), none, .load false 1 (.tmp 50)⟩,
 ⟨(some 52), none, .mov (.tmp 3)⟩,
 ⟨(some 53), none, .iaddr 1 (.tmp 51) (.tmp 52)⟩,
 ⟨(some 54), none, .load false 1 (.tmp 53)⟩,
 ⟨(some 55), none, .len (.tmp 54)⟩,
 ⟨(some 56), none, .bin .lss (.tmp 49) (.tmp 55)⟩])
 (.cond (.tmp 56) (.skip)
 (.exit 2)))
 (.seq (.block 3 (.seq (.reg [⟨(some 59), none, .faddr 4 (.tmp 1)⟩,
 ⟨(some 60), none, .load false 1 (.tmp 59)⟩,
 ⟨(some 61), none, .mov (.tmp 3)⟩,
 ⟨(some 62), none, .iaddr 1 (.tmp 60) (.tmp 61)⟩,
 ⟨(some 63), none, .load false 1 (.tmp 62)⟩,
 ⟨(some 64), none, .mov (.tmp 5)⟩,
 ⟨(some 65), none, .iaddr 5 (.tmp 63) (.tmp 64)⟩,
 ⟨(some 66), none, .load true 5 (.tmp 65)⟩,
 ⟨(some 6), none, .alloc [(.int .i64 0), (.int .i64 0), (.int .i64 0), (.int .i64 0), (.int .i64 0)]⟩,
 ⟨none, none, .store 5 (.tmp 6) (.tmp 66)⟩])
 (.seq (.seq (.reg [⟨(some 67), none, .faddr 0 (.tmp 6)⟩,
 ⟨(some 68), none, .load false 1 (.tmp 67)⟩,
 ⟨(some 69), none, .mov (.tmp 4)⟩,
 ⟨(some 70), none, .faddr 3 (.tmp 1)⟩,
 ⟨(some 71), none, .load false 1 (.tmp 70)⟩,
 ⟨(some 72), none, .call (.fn 59) [(.tmp 68), (.tmp 69), (.tmp 71)]⟩,
 ⟨(some 73), none, .un .not (.tmp 72)⟩,
 ⟨(some 74), none, .mov (.tmp 73)⟩,
 ⟨(some 75), (some (74, false)), .faddr 1 (.tmp 6)⟩,
 ⟨(some 76), (some (74, false)), .load true 2 (.tmp 75)⟩,
 ⟨(some 77), (some (74, false)), .faddr 0 (.tmp 1)⟩,
 ⟨(some 78), (some (74, false)), .load false 1 (.tmp 77)⟩,
 ⟨(some 79), (some (74, false)), .bin .sub (.tmp 78) (.lit (.int .i64 1))⟩,
 ⟨(some 80), (some (74, false)), .call (.fn 77) [(.tmp 76), (.tmp 79)]⟩,
 ⟨(some 81), (some (74, false)), .un .not (.tmp 80)⟩,
 ⟨(some 82), none, .pick (.tmp 74) (.lit (.bool true)) (.tmp 81)⟩,
 ⟨(some 83), none, .mov (.tmp 82)⟩,
 ⟨(some 84), (some (83, false)), .faddr 3 (.tmp 6)⟩,
 ⟨(some 85), (some (83, false)), .load true 2 (.tmp 84)⟩,
 ⟨(some 86), (some (83, false)), .faddr 1 (.tmp 1)⟩,
 ⟨(some 87), (some (83, false)), .load false 1 (.tmp 86)⟩,
 ⟨(some 88), (some (83, false)), .bin .sub (.tmp 87) (.lit (.int .i64 1))⟩,
 ⟨(some 89), (some (83, false)), .call (.fn 77) [(.tmp 85), (.tmp 88)]⟩,
 ⟨(some 90), (some (83, false)), .un .not (.tmp 89)⟩,
 ⟨(some 91), none, .pick (.tmp 83) (.lit (.bool true)) (.tmp 90)⟩])
 (.cond (.tmp 91) (.seq (.reg [⟨(some 2), none, .mov (.lit (.bool false))⟩])
 (.ret))
 (.skip)))
 (.reg [⟨(some 92), none, .faddr 0 (.tmp 6)⟩,
 ⟨(some 93), none, .load false 1 (.tmp 92)⟩,
 ⟨(some 4), none, .mov (.tmp 93)⟩]))))
 (.reg [⟨(some 57), none, .mov (.tmp 5)⟩,
 ⟨(some 58), none, .bin .add (.tmp 57) (.lit (.int .i64 1))⟩,
 ⟨(some 5), none, .mov (.tmp 58)⟩])))))))))
 (.reg [⟨(some 40), none, .mov (.tmp 3)⟩,
 ⟨(some 41), none, .bin .add (.tmp 40) (.lit (.int .i64 1))⟩,
 ⟨(some 3), none, .mov (.tmp 41)⟩]))))))
 (.seq (.reg [⟨(some 2), none, .mov (.lit (.bool true))⟩])
 (.ret))))
theorem k36 : FnC Tryd.prog 36 94 [] [] [.tmp 2] c36 1 := ⟨Tryd.f36, _, Tryd.func36, rfl, by decide, rfl, by decide, by kernel_rfl, by kernel_rfl⟩
/-- dipworks/dipworksref12.Size -/
def c44 : AC :=
 .seq (.reg [⟨(some 2), none, .mov (.lit (.int .i64 0))⟩])
 (.seq (.reg [⟨(some 3), none, .mov (.lit (.int .i64 0))⟩])
 (.seq (.block 0 (.loop (.seq (.seq (.reg [⟨(some 4), none, .mov (.tmp 0)⟩,
 ⟨(some 5), none, .bin .gtr (.tmp 4) (.lit (.int .i64 0))⟩])
 (.cond (.tmp 5) (.skip)
 (.exit 0)))
 (.block 1 (.reg [⟨(some 6), none, .mov (.tmp 3)⟩,
 ⟨(some 7), none, .mov (.tmp 0)⟩,
 ⟨(some 8), none, .bin .rem (.tmp 7) (.lit (.int .i64 2))⟩,
 ⟨(some 9), none, .bin .add (.tmp 6) (.tmp 8)⟩,
 ⟨(some 10), none, .mov (.tmp 0)⟩,
 ⟨(some 11), none, .bin .quo (.tmp 10) (.lit (.int .i64 2))⟩,
 ⟨(some 3), none, .mov (.tmp 9)⟩,
 ⟨(some 0), none, .mov (.tmp 11)⟩])))))
 (.seq (.reg [⟨(some 12), none, .mov (.tmp 3)⟩,
 ⟨(some 2), none, .mov (.tmp 12)⟩])
 (.ret))))
theorem k44 : FnC Tryd.prog 44 13 [] [] [.tmp 2] c44 1 := ⟨Tryd.f44, _, Tryd.func44, rfl, by decide, rfl, by decide, by kernel_rfl, by kernel_rfl⟩
/-- dipworks/dipworkslaw12.span -/
def c45 : AC :=
 .seq (.reg [⟨(some 4), none, .alloc [(.int .i64 0), (.int .i64 0)]⟩])
 (.seq (.reg [⟨(some 5), none, .mov (.tmp 0)⟩,
 ⟨(some 6), none, .mov (.tmp 1)⟩,
 ⟨(some 7), none, .build [(.int .i64 0), (.int .i64 0)] [(0, 1, (.tmp 5)), (1, 1, (.tmp 6))]⟩,
 ⟨none, none, .store 2 (.tmp 4) (.tmp 7)⟩])
 (.ret))
theorem k45 : FnC Tryd.prog 45 8 [4] [] [.cell 4 true 2] c45 2 := ⟨Tryd.f45, _, Tryd.func45, rfl, by decide, rfl, by decide, by kernel_rfl, by kernel_rfl⟩
/-- dipworks/dipworkslaw12.sample -/
def c46 : AC :=
 .seq (.reg [⟨(some 2), none, .alloc [(.int .i64 0), (.int .i64 0), (.int .i64 0), (.int .i64 0), (.slice none 0 0)]⟩])
 (.seq (.reg [⟨(some 4), none, .call (.fn 45) [(.lit (.int .i64 0)), (.lit (.int .i64 0))]⟩,
 ⟨(some 5), none, .call (.fn 45) [(.lit (.int .i64 3)), (.lit (.int .i64 3))]⟩,
 ⟨(some 6), none, .call (.fn 47) [(.lit (.int .i64 0)), (.tmp 4), (.tmp 5)]⟩,
 ⟨(some 7), none, .call (.fn 45) [(.lit (.int .i64 2)), (.lit (.int .i64 2))]⟩,
 ⟨(some 8), none, .call (.fn 45) [(.lit (.int .i64 2)), (.lit (.int .i64 3))]⟩,
 ⟨(some 9), none, .call (.fn 47) [(.lit (.int .i64 4)), (.tmp 7), (.tmp 8)]⟩,
 ⟨(some 10), none, .bslice 5 (.agg #[(.int .i64 0), (.int .i64 0), (.int .i64 0), (.int .i64 0), (.int .i64 0)]) 2 [(0, (.tmp 6)), (1, (.tmp 9))]⟩,
 ⟨(some 11), none, .mov (.tmp 0)⟩,
 ⟨(some 12), none, .app 5 40 (.tmp 10) (.tmp 11)⟩,
 ⟨(some 3), none, .mov (.tmp 12)⟩])
 (.seq (.reg [⟨(some 13), none, .mov (.tmp 3)⟩,
 ⟨(some 14), none, .call (.fn 45) [(.lit (.int .i64 3)), (.lit (.int .i64 4))]⟩,
 ⟨(some 15), none, .call (.fn 45) [(.lit (.int .i64 1)), (.lit (.int .i64 1))]⟩,
 ⟨(some 16), none, .call (.fn 47) [(.lit (.int .i64 2)), (.tmp 14), (.tmp 15)]⟩,
 ⟨(some 17), none, .call (.fn 45) [(.lit (.int .i64 5)), (.lit (.int .i64 5))]⟩,
 ⟨(some 18), none, .call (.fn 45) [(.lit (.int .i64 0)), (.lit (.int .i64 3))]⟩,
 ⟨(some 19), none, .call (.fn 47) [(.lit (.int .i64 5)), (.tmp 17), (.tmp 18)]⟩,
 ⟨(some 20), none, .bslice 5 (.agg #[(.int .i64 0), (.int .i64 0), (.int .i64 0), (.int .i64 0), (.int .i64 0)]) 2 [(0, (.tmp 16)), (1, (.tmp 19))]⟩,
 ⟨(some 21), none, .bslice 1 (.slice none 0 0) 2 [(0, (.tmp 13)), (1, (.tmp 20))]⟩,
 ⟨(some 22), none, .build [(.int .i64 0), (.int .i64 0), (.int .i64 0), (.int .i64 0), (.slice none 0 0)] [(0, 1, (.lit (.int .i64 6))), (1, 1, (.lit (.int .i64 4))), (2, 1, (.lit (.int .i64 1))), (3, 1, (.lit (.int .i64 6))), (4, 1, (.tmp 21))]⟩,
 ⟨none, none, .store 5 (.tmp 2) (.tmp 22)⟩])
 (.ret)))
theorem k46 : FnC Tryd.prog 46 23 [2] [] [.cell 2 true 5] c46 1 := ⟨Tryd.f46, _, Tryd.func46, rfl, by decide, rfl, by decide, by kernel_rfl, by kernel_rfl⟩
/-- dipworks/dipworkslaw12.seen -/
def c47 : AC :=
 .seq (.reg [⟨(some 4), none, .box (.tmp 1)⟩,
 ⟨(some 5), none, .box (.tmp 2)⟩,
 ⟨(some 6), none, .alloc [(.int .i64 0), (.int .i64 0), (.int .i64 0), (.int .i64 0), (.int .i64 0)]⟩])
 (.seq (.reg [⟨(some 7), none, .mov (.tmp 0)⟩,
 ⟨(some 8), none, .load true 2 (.tmp 4)⟩,
 ⟨(some 9), none, .load true 2 (.tmp 5)⟩,
 ⟨(some 10), none, .build [(.int .i64 0), (.int .i64 0), (.int .i64 0), (.int .i64 0), (.int .i64 0)] [(0, 1, (.tmp 7)), (1, 2, (.tmp 8)), (3, 2, (.tmp 9))]⟩,
 ⟨none, none, .store 5 (.tmp 6) (.tmp 10)⟩])
 (.ret))
theorem k47 : FnC Tryd.prog 47 11 [6] [] [.cell 6 true 5] c47 3 := ⟨Tryd.f47, _, Tryd.func47, rfl, by decide, rfl, by decide, by kernel_rfl, by kernel_rfl⟩
/-- dipworks/dipworksref12.in -/
def c59 : AC :=
 .seq (.reg [⟨(some 6), none, .mov (.lit (.bool false))⟩])
 (.seq (.reg [⟨(some 7), none, .mov (.tmp 1)⟩,
 ⟨(some 8), none, .mov (.tmp 0)⟩,
 ⟨(some 9), none, .bin .leq (.tmp 7) (.tmp 8)⟩,
 ⟨(some 10), none, .mov (.tmp 9)⟩,
 ⟨(some 11), (some (10, true)), .mov (.tmp 0)⟩,
 ⟨(some 12), (some (10, true)), .mov (.tmp 2)⟩,
 ⟨(some 13), (some (10, true)), .bin .leq (.tmp 11) (.tmp 12)⟩,
 ⟨(some 14), none, .pick (.tmp 10) (.tmp 13) (.lit (.bool false))⟩,
 ⟨(some 6), none, .mov (.tmp 14)⟩])
 (.ret))
theorem k59 : FnC Tryd.prog 59 15 [] [] [.tmp 6] c59 3 := ⟨Tryd.f59, _, Tryd.func59, rfl, by decide, rfl, by decide, by kernel_rfl, by kernel_rfl⟩
/-- dipworks/dipworksref12.span -/
def c77 : AC :=
 .seq (.reg [⟨(some 2), none, .box (.tmp 0)⟩,
 ⟨(some 4), none, .mov (.lit (.bool false))⟩])
 (.seq (.reg [⟨(some 5), none, .faddr 0 (.tmp 2)⟩,
 ⟨(some 6), none, .load false 1 (.tmp 5)⟩,
 ⟨(some 7), none, .bin .leq (.lit (.int .i64 0)) (.tmp 6)⟩,
 ⟨(some 8), none, .mov (.tmp 7)⟩,
 ⟨(some 9), (some (8, true)), .faddr 0 (.tmp 2)⟩,
 ⟨(some 10), (some (8, true)), .load false 1 (.tmp 9)⟩,
 ⟨(some 11), (some (8, true)), .faddr 1 (.tmp 2)⟩,
 ⟨(some 12), (some (8, true)), .load false 1 (.tmp 11)⟩,
 ⟨(some 13), (some (8, true)), .bin .leq (.tmp 10) (.tmp 12)⟩,
 ⟨(some 14), none, .pick (.tmp 8) (.tmp 13) (.lit (.bool false))⟩,
 ⟨(some 15), none, .mov (.tmp 14)⟩,
 ⟨(some 16), (some (15, true)), .faddr 1 (.tmp 2)⟩,
 ⟨(some 17), (some (15, true)), .load false 1 (.tmp 16)⟩,
 ⟨(some 18), (some (15, true)), .mov (.tmp 1)⟩,
 ⟨(some 19), (some (15, true)), .bin .leq (.tmp 17) (.tmp 18)⟩,
 ⟨(some 20), none, .pick (.tmp 15) (.tmp 19) (.lit (.bool false))⟩,
 ⟨(some 4), none, .mov (.tmp 20)⟩])
 (.ret))
theorem k77 : FnC Tryd.prog 77 21 [] [] [.tmp 4] c77 2 := ⟨Tryd.f77, _, Tryd.func77, rfl, by decide, rfl, by decide, by kernel_rfl, by kernel_rfl⟩
end Go.Proofs.YtafcdpmcmmfbhaaDoor

/- Compiled code of functions, printed by program; each is checked to be the program's. No conditions. -/
namespace Go.Proofs.YtafcdpmcmmfbhaaDoor
open Go Go.Ab
/-- dipworks/dipworkslaw12.places -/
def c35 : AC :=
 .seq (.reg [⟨(some 1), none, .box (.tmp 0)⟩,
 ⟨(some 2), none, .mov (.lit (.int .i64 0))⟩])
 (.seq (.reg [⟨(some 3), none, .faddr 0 (.tmp 1)⟩,
 ⟨(some 4), none, .load false 1 (.tmp 3)⟩,
 ⟨(some 5), none, .faddr 1 (.tmp 1)⟩,
 ⟨(some 6), none, .load false 1 (.tmp 5)⟩,
 ⟨(some 7), none, .bin .mul (.tmp 4) (.tmp 6)⟩,
 ⟨(some 2), none, .mov (.tmp 7)⟩])
 (.ret))
theorem k35 : FnC Tryd.prog 35 8 [] [] [.tmp 2] c35 1 := ⟨Tryd.f35, _, Tryd.func35, rfl, by decide, rfl, by decide, by kernel_rfl, by kernel_rfl⟩
/-- dipworks/dipworkslaw12.set -/
def c37 : AC :=
 .seq (.reg [⟨(some 3), none, .box (.tmp 0)⟩,
 ⟨(some 6), none, .mov (.lit (.slice none 0 0))⟩,
 ⟨(some 7), none, .mov (.lit (.bool false))⟩])
 (.seq (.reg [⟨(some 13), none, .load true 5 (.tmp 3)⟩,
 ⟨(some 14), none, .mov (.tmp 1)⟩,
 ⟨(some 15), none, .mov (.tmp 2)⟩,
 ⟨(some 16), none, .call (.fn 16) [(.tmp 13), (.tmp 14), (.tmp 15)]⟩,
 ⟨(some 12), none, .mov (.tmp 16)⟩,
 ⟨(some 17), none, .ext (.tmp 12) 0⟩,
 ⟨(some 18), none, .ext (.tmp 12) 1⟩,
 ⟨(some 8), none, .mov (.tmp 17)⟩,
 ⟨(some 9), none, .mov (.tmp 18)⟩])
 (.seq (.reg [⟨(some 10), none, .mov (.lit (.slice none 0 0))⟩])
 (.seq (.seq (.reg [⟨(some 19), none, .load true 5 (.tmp 3)⟩,
 ⟨(some 20), none, .call (.fn 35) [(.tmp 19)]⟩,
 ⟨(some 21), none, .mov (.lit (.int .i64 0))⟩])
 (.block 0 (.loop (.seq (.reg [⟨(some 22), none, .bin .lss (.tmp 21) (.tmp 20)⟩])
 (.seq (.cond (.tmp 22) (.skip)
 (.exit 0))
 (.seq (.block 1 (.seq (.reg [⟨(some 23), none, .mov (.tmp 21)⟩,
 ⟨(some 11), none, .mov (.tmp 23)⟩])
 (.seq (.reg [⟨(some 24), none, .mov (.tmp 8)⟩,
 ⟨(some 25), none, .mov (.tmp 11)⟩,
 ⟨(some 26), none, .bin .shr (.tmp 24) (.tmp 25)⟩,
 ⟨(some 27), none, .bin .and (.tmp 26) (.lit (.int .i64 1))⟩,
 ⟨(some 28), none, .bin .eql (.tmp 27) (.lit (.int .i64 1))⟩])
 (.cond (.tmp 28) (.reg [⟨(some 29), none, .mov (.tmp 10)⟩,
 ⟨(some 30), none, .mov (.tmp 11)⟩,
 ⟨(some 31), none, .bslice 1 (.int .i64 0) 1 [(0, (.tmp 30))]⟩,
 ⟨(some 32), none, .app 1 8 (.tmp 29) (.tmp 31)⟩,
 ⟨(some 10), none, .mov (.tmp 32)⟩])
 (.skip)))))
 (.reg [⟨(some 33), none, .bin .add (.tmp 21) (.lit (.int .i64 1))⟩,
 ⟨(some 21), none, .mov (.tmp 33)⟩])))))))
 (.seq (.draw (.step ⟨(some 34), none, .mov (.tmp 10)⟩ (
 .step ⟨(some 35), none, .mov (.tmp 9)⟩ (
 .step ⟨(some 36), none, .bin .eql (.tmp 35) (.lit (.int .i64 0))⟩ (
 .step ⟨(some 37), none, .mov (.tmp 36)⟩ (
 .step ⟨(some 38), (some (37, true)), .mov (.tmp 10)⟩ (
 .step ⟨(some 39), (some (37, true)), .len (.tmp 38)⟩ (
 .step ⟨(some 40), (some (37, true)), .bin .gtr (.tmp 39) (.lit (.int .i64 0))⟩ (
 .step ⟨(some 41), none, .pick (.tmp 37) (.tmp 40) (.lit (.bool false))⟩ (
 .step ⟨(some 42), none, .mov (.tmp 41)⟩ (
 .step ⟨(some 43), (some (42, true)), .mov (.tmp 8)⟩ (
 .step ⟨(some 44), (some (42, true)), .load true 5 (.tmp 3)⟩ (
 .ev ⟨(some 45), (some (42, true)), .call (.fn 35) [(.tmp 44)]⟩ [⟨(some 39), (some (37, true)), .len (.tmp 38)⟩] (
 .step ⟨(some 46), (some (42, true)), .bin .shr (.tmp 43) (.tmp 45)⟩ (
 .step ⟨(some 47), (some (42, true)), .bin .eql (.tmp 46) (.lit (.int .i64 0))⟩ (
 .step ⟨(some 48), none, .pick (.tmp 42) (.tmp 47) (.lit (.bool false))⟩ (
 .step ⟨(some 6), none, .mov (.tmp 34)⟩ (
 .step ⟨(some 7), none, .mov (.tmp 48)⟩ (
 .done))))))
 (.stop))))))))))))))
 (.ret)))))
theorem k37 : FnC Tryd.prog 37 49 [] [] [.tmp 6, .tmp 7] c37 3 := ⟨Tryd.f37, _, Tryd.func37, rfl, by decide, rfl, by decide, by kernel_rfl, by kernel_rfl⟩
end Go.Proofs.YtafcdpmcmmfbhaaDoor

/- The statements' own small functions; are boats valid, by the document. -/
namespace Go.Proofs.YtafcdpmcmmfbhaaDoor
open Go Go.Ab

theorem span2_ok (lo hi : Int) : ACall Tryd.prog 45 [.t (vi lo), .t (vi hi)] [] (ret (.agg [vi lo, vi hi])) := by
  refine ACall.walk k45 ?_
  unfold c45
  simp only [go_sem, Nat.reduceEqDiff, Nat.reduceAdd, Nat.reduceLeDiff, undef]
  exact finL_ret [] ⟨rfl, rfl, rfl, rfl, _, rfl, res_mk rfl⟩
theorem seen2_ok (m c1 c2 r1 r2 : Int) : ACall Tryd.prog 47 [.t (vi m), .t (.agg [vi c1, vi c2]), .t (.agg [vi r1, vi r2])] [] (ret (.agg [vi m, vi c1, vi c2, vi r1, vi r2])) := by
  refine ACall.walk k47 ?_
  unfold c47
  simp only [go_sem, Nat.reduceEqDiff, Nat.reduceAdd, Nat.reduceLeDiff, undef]
  exact finL_ret [] ⟨rfl, rfl, rfl, rfl, _, rfl, res_mk rfl⟩
theorem places_ok (b : Bo) : ACall Tryd.prog 35 [.t (.agg (bo5 b))] [] (ret (vi (IntKind.i64.wrap (b.wide * b.deep)))) := by
  refine ACall.walk k35 ?_
  unfold c35 bo5
  simp only [go_sem, Nat.reduceEqDiff, Nat.reduceAdd, Nat.reduceLeDiff]
  exact finL_ret [] ⟨rfl, rfl, rfl, rfl, _, rfl, res_mk rfl⟩
def smp (l : List Si) : Bo := { wide := 6, deep := 4, speed := 1, last := 6, seen := [[⟨0, 0, 0, 3, 3⟩, ⟨4, 2, 2, 2, 3⟩] ++ l, [⟨2, 3, 4, 1, 1⟩, ⟨5, 5, 5, 0, 3⟩]] }

/-! ### Are there far too many? -/
def mostL (ls : List (List Si)) (n : Int) : Int := ls.foldl (fun a l => max a l.length) n
def farB (b : Bo) : Bool := decide (mostL b.seen b.seen.length > 40)
theorem mxmn_max (a b : Int) : (if a ≤ b then b else a) = max a b := by rw [Int.max_def]
set_option maxRecDepth 8000 in
theorem far_ok (b : Bo) (hl : Lens b) : ACall Tryd.prog 14 [.t (.agg (bo5 b))] [] (ret (vb (farB b))) := by
  refine ACall.walk k14 ?_
  have hln := hl.1
  unfold c14 bo5
  simp only [go_sem, Nat.reduceEqDiff, Nat.reduceAdd, List.length_map]
  refine awpL_for (i := 12) (L := 11) b.seen.length (fun j st => st = { env := [(12, .t (vi j)), (11, .t (vi b.seen.length)), (10, .t (.slice 1 (b.seen.map tSis))), (3, .t (vi (mostL (b.seen.take j) b.seen.length)))], σ := [] }) ?_ ⟨_, Sub.gc [] [12, 11, 10, 3] rfl rfl, rfl⟩ ?_ ?_
  · rintro k st rfl; exact ⟨rfl, rfl⟩
  · rintro j st hj rfl
    have hx : b.seen[j]? = some b.seen[j] := List.getElem?_eq_getElem hj
    have tx : mostL (b.seen.take (j + 1)) b.seen.length = max (mostL (b.seen.take j) b.seen.length) b.seen[j].length := by
      rw [List.take_add_one, hx]; unfold mostL; rw [List.foldl_append]; rfl
    have hw : IntKind.i64.wrap ((j : Int) + 1) = ((j + 1 : Nat) : Int) := by rw [wrap_id (by omega) (by omega)]; omega
    generalize b.seen[j] = l at *
    simp only [go_sem, Nat.reduceEqDiff, List.length_map, List.getElem?_map, hx, Option.map_some, tSis, hw]
    refine ⟨_, Sub.gc [] [12, 11, 10, 3] rfl rfl, ?_⟩
    rw [tx]; rfl
  · rintro st rfl
    rw [List.take_length]
    simp only [go_sem, Nat.reduceEqDiff]
    exact finL_ret [] ⟨rfl, rfl, rfl, rfl, _, rfl, res_mk rfl⟩
set_option maxRecDepth 8000 in
set_option maxHeartbeats 4000000 in
theorem sample_ok0 : ACall Tryd.prog 46 [.t (.lit (.slice none 0 0))] [] (ret (.agg (bo5 (smp [])))) := by
  refine ACall.walk k46 ?_
  unfold c46
  simp only [go_sem]
  repeat' (first | refine ACallL.quiet1 (span2_ok _ _) rfl rfl rfl ?_ | refine ACallL.quiet1 (seen2_ok _ _ _ _ _) rfl rfl rfl ?_ | refine ⟨by decide, ?_⟩ | simp only [go_sem, Nat.reduceEqDiff, Nat.reduceAdd])
  exact ⟨_, rfl, [], rfl, rfl, res_mk rfl⟩
set_option maxRecDepth 8000 in
set_option maxHeartbeats 4000000 in
theorem sample_ok1 (x : Si) : ACall Tryd.prog 46 [.t (.slice 5 [tSi x])] [] (ret (.agg (bo5 (smp [x])))) := by
  obtain ⟨x1, x2, x3, x4, x5⟩ := x
  refine ACall.walk k46 ?_
  unfold c46
  simp only [go_sem, tSi]
  repeat' (first | refine ACallL.quiet1 (span2_ok _ _) rfl rfl rfl ?_ | refine ACallL.quiet1 (seen2_ok _ _ _ _ _) rfl rfl rfl ?_ | refine ⟨by decide, ?_⟩ | simp only [go_sem, Nat.reduceEqDiff, Nat.reduceAdd, Nat.reduceMul, Nat.reduceLT, Nat.reduceLeDiff, undef, undef])
  exact finL_ret [] ⟨rfl, rfl, rfl, rfl, _, rfl, res_mk rfl⟩

/-! ### Are boats valid? -/
theorem rin_ok (n lo hi : Int) : ACall Tryd.prog 59 [.t (vi n), .t (vi lo), .t (vi hi)] [] (ret (vb (wI n lo hi))) := by
  refine ACall.walk k59 ?_
  unfold c59
  rw [wI_eq]
  simp only [go_sem, Nat.reduceEqDiff, Nat.reduceAdd]
  cases hA : decide (lo ≤ n)
  · simp only [go_sem, Nat.reduceEqDiff, undef]
    exact finL_ret [] ⟨rfl, rfl, rfl, rfl, _, rfl, res_mk rfl⟩
  · simp only [go_sem, Nat.reduceEqDiff]
    exact finL_ret [] ⟨rfl, rfl, rfl, rfl, _, rfl, res_mk rfl⟩
theorem rspan_ok (x : Sp) (high : Int) : ACall Tryd.prog 77 [.t (tSp x), .t (vi high)] [] (ret (vb (spB x.1 x.2 high))) := by
  refine ACall.walk k77 ?_
  unfold c77 tSp spB
  obtain ⟨lo, hi⟩ := x
  simp only [go_sem, Nat.reduceEqDiff, Nat.reduceAdd, Nat.reduceLeDiff]
  cases h1 : decide (0 ≤ lo)
  · simp only [go_sem, Nat.reduceEqDiff, undef, undef]
    exact finL_ret [] ⟨rfl, rfl, rfl, rfl, _, rfl, res_mk rfl⟩
  simp only [go_sem, Nat.reduceEqDiff, Nat.reduceAdd, Nat.reduceLeDiff, beq_self_eq_true]
  cases h2 : decide (lo ≤ hi)
  · simp only [go_sem, Nat.reduceEqDiff, undef, undef]
    exact finL_ret [] ⟨rfl, rfl, rfl, rfl, _, rfl, res_mk rfl⟩
  simp only [go_sem, Nat.reduceEqDiff, Nat.reduceAdd, beq_self_eq_true]
  exact finL_ret [] ⟨rfl, rfl, rfl, rfl, _, rfl, res_mk rfl⟩

theorem not_ok {b : Bo} (h : ¬ b.OK) : b.ok = false := by rw [← Bool.not_eq_true, b.ok_iff]; exact h
def RsMid (b : Bo) (st : St) : Prop := lk st.env 1 = .ptr 0 0 ∧ st.σ = [.cells ((bo5 b).map .t)] ∧ st.df = [] ∧ st.k = 0
set_option maxRecDepth 8000 in
set_option maxHeartbeats 8000000 in
theorem rboats_ok (b : Bo) (hl : Lens b) : ACall Tryd.prog 36 [.t (.agg (bo5 b))] [] (ret (vb b.ok)) := by
  refine ACall.walk k36 ?_
  unfold c36
  have hln := hl.1
  refine awpL_chop 2 (c1 := ?a1) (c2 := ?a2) (fun st => b.headB = true ∧ RsMid b st) ?hc ?_ ?_
  case hc => simp only [chop]; rfl
  · unfold bo5
    have bad : b.headB = false → b.ok = false := fun h => by unfold Bo.ok; rw [h]; rfl
    unfold Bo.headB at bad ⊢
    simp only [go_sem, Nat.reduceEqDiff, Nat.reduceAdd, Nat.reduceLeDiff]
    refine ACallL.quiet1 (rin_ok _ _ _) rfl rfl rfl ?_
    cases h1 : wI b.wide 1 8
    · simp only [go_sem, Nat.reduceEqDiff, Bool.not_true, Bool.not_false, undef, undef]
      exact finL_ret [] ⟨rfl, rfl, rfl, rfl, _, rfl, res_mk (by rw [bad (by rw [h1]; rfl)]; rfl)⟩
    simp only [go_sem, Nat.reduceEqDiff, Nat.reduceAdd, Nat.reduceLeDiff, Bool.not_true, beq_self_eq_true]
    refine ACallL.quiet1 (rin_ok _ _ _) rfl rfl rfl ?_
    cases h2 : wI b.deep 1 6
    · simp only [go_sem, Nat.reduceEqDiff, Bool.not_true, Bool.not_false, undef, beq_self_eq_true, undef]
      exact finL_ret [] ⟨rfl, rfl, rfl, rfl, _, rfl, res_mk (by rw [bad (by rw [h1, h2]; rfl)]; rfl)⟩
    simp only [go_sem, Nat.reduceEqDiff, Nat.reduceAdd, Nat.reduceLeDiff, Bool.not_true, beq_self_eq_true]
    refine ACallL.quiet1 (rin_ok _ _ _) rfl rfl rfl ?_
    cases h3 : wI b.speed 0 3
    · simp only [go_sem, Nat.reduceEqDiff, Bool.not_true, Bool.not_false, undef, beq_self_eq_true, undef]
      exact finL_ret [] ⟨rfl, rfl, rfl, rfl, _, rfl, res_mk (by rw [bad (by rw [h1, h2, h3]; rfl)]; rfl)⟩
    simp only [go_sem, Nat.reduceEqDiff, Nat.reduceAdd, Nat.reduceLeDiff, Bool.not_true, beq_self_eq_true]
    refine ACallL.quiet1 (rin_ok _ _ _) rfl rfl rfl ?_
    cases h4 : wI b.last 0 12
    · simp only [go_sem, Nat.reduceEqDiff, Bool.not_true, Bool.not_false, undef, beq_self_eq_true, undef]
      exact finL_ret [] ⟨rfl, rfl, rfl, rfl, _, rfl, res_mk (by rw [bad (by rw [h1, h2, h3, h4]; rfl)]; rfl)⟩
    simp only [go_sem, Nat.reduceEqDiff, Nat.reduceAdd, Bool.not_true, beq_self_eq_true, List.length_map]
    cases h5 : decide ((b.seen.length : Int) > 4)
    rotate_left
    · have h5' : decide (b.seen.length ≤ 4) = false := by have := of_decide_eq_true h5; exact decide_eq_false (by omega)
      simp only [go_sem]
      exact finL_ret [] ⟨rfl, rfl, rfl, rfl, _, rfl, res_mk (by rw [bad (by rw [h1, h2, h3, h4, h5']; rfl)]; rfl)⟩
    have h5' : decide (b.seen.length ≤ 4) = true := by have := of_decide_eq_false h5; exact decide_eq_true (by omega)
    simp only [go_sem, Bool.and_true, Bool.true_and]
    exact ⟨of_decide_eq_true h5', rfl, rfl, rfl, rfl⟩
  rintro ⟨env, σ, df, k⟩ ⟨vh, q1, hσ, hdf, hk⟩
  simp only at q1 hσ hdf hk
  subst hσ hdf hk
  have vh' := vh
  unfold Bo.headB at vh'
  simp only [Bool.and_eq_true, decide_eq_true_eq, wI_iff] at vh'
  obtain ⟨⟨⟨⟨⟨w1, w2⟩, ⟨d1, d2⟩⟩, _⟩, ⟨l1, l2⟩⟩, n4⟩ := vh'
  unfold bo5
  simp only [go_sem]
  refine awpL_loopK b.seen.length (fun j st => (b.seen.take j).all (fun l => decide (l.length ≤ 5) && sawB b 0 l) = true ∧ st = { env := [(3, .t (vi j)), (1, .ptr 0 0)], σ := [.cells ((bo5 b).map .t)] }) ⟨_, Sub.gc [0] [3, 1] rfl rfl, rfl, ?_⟩ ?_
  · exact St.gc_mk (by simp only [List.map_cons, List.map_nil, lk, Nat.reduceEqDiff, reduceIte, q1]; rfl) rfl rfl rfl
  · rintro j st hjn ⟨hK, rfl⟩
    simp only [bo5, go_sem, Nat.reduceEqDiff, Nat.reduceAdd, List.length_map]
    cases g : decide ((j : Int) < b.seen.length)
    · have hje : j = b.seen.length := by have := of_decide_eq_false g; omega
      subst hje
      rw [List.take_length] at hK
      have hok : b.ok = true := by unfold Bo.ok; rw [vh, hK]; rfl
      simp only [go_sem]
      exact finL_ret [] ⟨rfl, rfl, rfl, rfl, _, rfl, res_mk (by rw [hok]; rfl)⟩
    have hj : j < b.seen.length := by have := of_decide_eq_true g; omega
    have hx : b.seen[j]? = some b.seen[j] := List.getElem?_eq_getElem hj
    have tx : b.seen.take (j + 1) = b.seen.take j ++ [b.seen[j]] := by rw [List.take_add_one, hx]; rfl
    have mx := List.getElem_mem hj
    have hw : IntKind.i64.wrap ((j : Int) + 1) = ((j + 1 : Nat) : Int) := by rw [wrap_id (by omega) (by omega)]; omega
    generalize b.seen[j] = l at *
    have hll := hl.2 l mx
    have bad : (decide (l.length ≤ 5) && sawB b 0 l) = false → b.ok = false := fun h => not_ok fun k => by
      rw [decide_eq_true (k.lens l mx), k.saw l mx] at h; cases h
    simp only [go_sem, Nat.reduceEqDiff, Nat.reduceAdd, List.length_map, List.getElem?_map, hx, Option.map_some, tSis]
    cases h5 : decide ((l.length : Int) > 5)
    rotate_left
    · have h5' : decide (l.length ≤ 5) = false := by have := of_decide_eq_true h5; exact decide_eq_false (by omega)
      simp only [go_sem]
      exact finL_ret [] ⟨rfl, rfl, rfl, rfl, _, rfl, res_mk (by rw [bad (by rw [h5']; rfl)]; rfl)⟩
    have h5' : decide (l.length ≤ 5) = true := by have := of_decide_eq_false h5; exact decide_eq_true (by omega)
    rw [h5', Bool.true_and] at bad
    have hl5 := of_decide_eq_true h5'
    simp only [go_sem]
    refine awpL_loopK l.length (fun i st => ∃ m : Int, (0 ≤ m ∧ m ≤ 12) ∧ sawB b 0 l = sawB b m (l.drop i) ∧ st = { env := [(5, .t (vi i)), (4, .t (vi m)), (3, .t (vi j)), (1, .ptr 0 0)], σ := [.cells ((bo5 b).map .t)] }) ⟨_, Sub.gc [0] [5, 4, 3, 1] rfl rfl, 0, by omega, rfl, rfl⟩ ?_
    rintro i st hin ⟨m, hm, hS, rfl⟩
    simp only [bo5, go_sem, Nat.reduceEqDiff, Nat.reduceAdd, List.length_map, List.getElem?_map, hx, Option.map_some, tSis]
    cases g2 : decide ((i : Int) < l.length)
    · have hie : i = l.length := by have := of_decide_eq_false g2; omega
      subst hie
      rw [List.drop_length] at hS
      simp only [bo5, go_sem, Nat.reduceEqDiff, hw]
      refine ⟨hj, _, Sub.gc [0] [3, 1] rfl rfl, ?_, rfl⟩
      rw [tx, List.all_append, hK, Bool.true_and, List.all_cons, h5', hS]
      rfl
    have hi : i < l.length := by have := of_decide_eq_true g2; omega
    have hwi : IntKind.i64.wrap ((i : Int) + 1) = ((i + 1 : Nat) : Int) := by rw [wrap_id (by omega) (by omega)]; omega
    have hs : l[i]? = some l[i] := List.getElem?_eq_getElem hi
    have hd : l.drop i = l[i] :: l.drop (i + 1) := List.drop_eq_getElem_cons hi
    generalize l[i] = s at *
    rw [hd] at hS
    have hS2 : sawB b 0 l = (s.okB b m && sawB b s.minute (l.drop (i + 1))) := hS
    have bad2 : s.okB b m = false → b.ok = false := fun h => bad (by rw [hS2, h]; rfl)
    have wc : IntKind.i64.wrap (b.wide - 1) = b.wide - 1 := wrap_id (by omega) (by omega)
    have wr : IntKind.i64.wrap (b.deep - 1) = b.deep - 1 := wrap_id (by omega) (by omega)
    have hsp1 := rspan_ok (s.c1, s.c2) (b.wide - 1)
    have hsp2 := rspan_ok (s.r1, s.r2) (b.deep - 1)
    unfold Si.okB at bad2 hS2
    obtain ⟨sm, c1, c2, r1, r2⟩ := s
    simp only [tSp] at hsp1 hsp2 bad2 hS2
    simp only [go_sem, Nat.reduceEqDiff, Nat.reduceAdd, Nat.reduceLeDiff, undef, undef, List.getElem?_map, hx, hs, Option.map_some, tSis, tSi]
    refine ACallL.quiet1 (rin_ok _ _ _) rfl rfl rfl ?_
    cases h1 : wI sm m b.last
    · simp only [go_sem, Nat.reduceEqDiff, Bool.not_true, Bool.not_false, undef, undef]
      exact finL_ret [] ⟨rfl, rfl, rfl, rfl, _, rfl, res_mk (by rw [bad2 (by rw [h1]; rfl)]; rfl)⟩
    simp only [go_sem, Nat.reduceEqDiff, Nat.reduceAdd, Nat.reduceLeDiff, Bool.not_true, beq_self_eq_true, wc]
    refine ACallL.quiet1 hsp1 rfl rfl rfl ?_
    cases h2 : spB c1 c2 (b.wide - 1)
    · simp only [go_sem, Nat.reduceEqDiff, Bool.not_true, Bool.not_false, undef, beq_self_eq_true, undef]
      exact finL_ret [] ⟨rfl, rfl, rfl, rfl, _, rfl, res_mk (by rw [bad2 (by rw [h1, h2]; rfl)]; rfl)⟩
    simp only [go_sem, Nat.reduceEqDiff, Nat.reduceAdd, Nat.reduceLeDiff, Bool.not_true, beq_self_eq_true, wr]
    refine ACallL.quiet1 hsp2 rfl rfl rfl ?_
    cases h3 : spB r1 r2 (b.deep - 1)
    · simp only [go_sem, Nat.reduceEqDiff, Bool.not_false, beq_self_eq_true]
      exact finL_ret [] ⟨rfl, rfl, rfl, rfl, _, rfl, res_mk (by rw [bad2 (by rw [h1, h2, h3]; rfl)]; rfl)⟩
    simp only [go_sem, Nat.reduceEqDiff, Nat.reduceAdd, Nat.reduceLeDiff, Bool.not_true, beq_self_eq_true, hwi]
    rw [h1, h2, h3] at hS2
    exact ⟨hi, _, Sub.gc [0] [5, 4, 3, 1] rfl rfl, sm, by have := wI_iff.1 h1; omega, hS2, rfl⟩

def fineB (b : Bo) : Bool := !farB b && b.ok
theorem fine_ok (b : Bo) (hl : Lens b) : ACall Tryd.prog 32 [.t (.agg (bo5 b))] [] (ret (vb (fineB b))) := by
  refine ACall.walk k32 ?_
  have h36 := rboats_ok b hl
  have h14 := far_ok b hl
  unfold c32
  unfold bo5 at h36 h14 ⊢
  simp only [go_sem, Nat.reduceEqDiff, Nat.reduceAdd]
  refine ACallL.quiet1 h14 rfl rfl rfl ?_
  cases hF : farB b
  · simp only [go_sem, Nat.reduceEqDiff, Nat.reduceAdd, Bool.not_false, beq_self_eq_true]
    refine ACallL.quiet1 h36 rfl rfl rfl ?_
    simp only [go_sem, Nat.reduceEqDiff]
    exact finL_ret [] ⟨rfl, rfl, rfl, rfl, _, rfl, res_mk (by simp only [fineB, hF]; rfl)⟩
  · simp only [go_sem, Nat.reduceEqDiff, Bool.not_true, undef, undef]
    exact finL_ret [] ⟨rfl, rfl, rfl, rfl, _, rfl, res_mk (by simp only [fineB, hF]; rfl)⟩
theorem fine_iff {b : Bo} (h : fineB b = true) : b.ok = true ∧ b.OK := by
  unfold fineB at h
  rw [Bool.and_eq_true] at h
  exact ⟨h.2, (b.ok_iff).1 h.2⟩
end Go.Proofs.YtafcdpmcmmfbhaaDoor

/- The document's example of boats. -/
namespace Go.Proofs.YtafcdpmcmmfbhaaDoor
open Go Go.Ab
abbrev sm0 : Bo := smp []
abbrev sm1 : Bo := smp [⟨5, 5, 5, 0, 0⟩]
theorem x1 : specCan sm0 0 2 = (1847296, 0) := by decide +kernel
theorem x2 : specRows sm0 0 2 = ((2, 3), 0) := by decide +kernel
theorem x3 : specNearest sm0 1 = ((0, 1), 0) := by decide +kernel
theorem x4 : specBroke sm0 0 2 = (1, 0) := by decide +kernel
theorem x5 : specMet sm0 0 1 = (6, 0) := by decide +kernel
theorem x6 : specWho sm0 6 16 = (0, 3, 0) := by decide +kernel
theorem x7 : specWho sm0 0 18 = (1, 1, 0) := by decide +kernel
theorem x8 : specSpeed sm0 0 = (1, 0) := by decide +kernel
theorem x9 : specWrong sm1 0 = (4, 0) := by decide +kernel
set_option maxRecDepth 8000 in
set_option maxHeartbeats 4000000 in
theorem sample_okR (x1 x2 x3 x4 x5 : Int) : ACall Tryd.prog 46 [.loc 0 1] [.row 5 [.t (.agg [vi x1, vi x2, vi x3, vi x4, vi x5])]] (fun o σ' => ∃ a', (o = .ret (.t (.agg (bo5 (smp [⟨x1, x2, x3, x4, x5⟩])))) ∧ a' = .row 5 [.t (.agg [vi x1, vi x2, vi x3, vi x4, vi x5])]) ∧ σ' = [a']) := by
  refine ACall.walk k46 ?_
  unfold c46
  simp only [go_sem]
  repeat' (first | refine ACallL.quiet1 (span2_ok _ _) rfl rfl rfl ?_ | refine ACallL.quiet1 (seen2_ok _ _ _ _ _) rfl rfl rfl ?_ | refine ⟨by decide, ?_⟩ | simp only [go_sem, Nat.reduceEqDiff, Nat.reduceAdd, Nat.reduceMul, Nat.reduceLT, Nat.reduceLeDiff, undef, undef])
  exact finL_ret [0] ⟨rfl, rfl, rfl, rfl, _, rfl, _, ⟨rfl, rfl⟩, rfl⟩

theorem toKey2 (a b : Int) : toKey (some [some .i64, some .i64], none) (.t (.agg [vi a, vi b])) = some [a, b] := by
  simp [toKey, cellKeys, cellKey]
theorem kEq2 (a b c d : Int) : kEq [some .i64, some .i64] [a, b] [c, d] = ((a == c) && (b == d)) := by
  simp [kEq, cellEq]

set_option maxRecDepth 8000 in
set_option maxHeartbeats 4000000 in
set_option maxRecDepth 8000 in
set_option maxHeartbeats 4000000 in
theorem awake_ok : ACall Tryd.prog 15 [] [] (ret (vb true)) := by
  have hl : Lens sm0 := by decide
  have hl1 : Lens sm1 := by decide
  have h16 := Can_ok sm0 hl 0 2
  have h18 := Rows_ok sm0 hl 0 2
  have h20 := Nearest_ok sm0 hl 1
  have h22 := Broke_ok sm0 hl 0 2
  have h24 := Met_ok sm0 hl 0 1
  have h26 := Who_ok sm0 hl 6 16
  have h26' := Who_ok sm0 hl 0 18
  have h28 := Speed_ok sm0 hl 0
  have h30 := Wrong_ok sm1 hl1 0
  have hs0 := sample_ok0
  have hs1 := sample_okR 5 5 5 0 0
  rw [x1] at h16
  rw [x2] at h18
  rw [x3] at h20
  rw [x4] at h22
  rw [x5] at h24
  rw [x6] at h26
  rw [x7] at h26'
  rw [x8] at h28
  rw [x9] at h30
  simp only [spanE, oneE, twoE, tSp] at h16 h18 h20 h22 h24 h26 h26' h28 h30
  have e0 : bo5 sm0 = [vi 6, vi 4, vi 1, vi 6, .slice 1 [.slice 5 [.agg [vi 0, vi 0, vi 0, vi 3, vi 3], .agg [vi 4, vi 2, vi 2, vi 2, vi 3]], .slice 5 [.agg [vi 2, vi 3, vi 4, vi 1, vi 1], .agg [vi 5, vi 5, vi 5, vi 0, vi 3]]]] := rfl
  have e1 : bo5 sm1 = [vi 6, vi 4, vi 1, vi 6, .slice 1 [.slice 5 [.agg [vi 0, vi 0, vi 0, vi 3, vi 3], .agg [vi 4, vi 2, vi 2, vi 2, vi 3], .agg [vi 5, vi 5, vi 5, vi 0, vi 0]], .slice 5 [.agg [vi 2, vi 3, vi 4, vi 1, vi 1], .agg [vi 5, vi 5, vi 5, vi 0, vi 3]]]] := rfl
  rw [e0] at h16 h18 h20 h22 h24 h26 h26' h28 hs0
  rw [e1] at h30 hs1
  refine ACall.walk k15 ?_
  unfold c15
  simp only [go_sem]
  refine ACallL.fresh1 hs0 rfl ?_
  simp only [go_sem, Nat.reduceEqDiff, Nat.reduceAdd, undef]
  refine ACallL.quiet1 h16 rfl rfl rfl ?_
  simp only [go_sem, Nat.reduceEqDiff, Nat.reduceAdd]
  refine ACallL.quiet1 h18 rfl rfl rfl ?_
  simp only [go_sem, Nat.reduceEqDiff, Nat.reduceAdd, undef]
  refine ACallL.quiet1 h20 rfl rfl rfl ?_
  simp only [go_sem, Nat.reduceEqDiff, Nat.reduceAdd, undef]
  refine ACallL.quiet1 h22 rfl rfl rfl ?_
  simp only [go_sem, Nat.reduceEqDiff, Nat.reduceAdd]
  refine ACallL.quiet1 h24 rfl rfl rfl ?_
  simp only [go_sem, Nat.reduceEqDiff, Nat.reduceAdd]
  refine ACallL.quiet1 h26 rfl rfl rfl ?_
  simp only [go_sem, Nat.reduceEqDiff, Nat.reduceAdd]
  refine ACallL.quiet1 h26' rfl rfl rfl ?_
  simp only [go_sem, Nat.reduceEqDiff, Nat.reduceAdd]
  refine ACallL.quiet1 h28 rfl rfl rfl ?_
  simp only [go_sem, Nat.reduceEqDiff]
  refine ACallL.quiet1 (span2_ok _ _) rfl rfl rfl ?_
  simp only [go_sem]
  refine ACallL.quiet1 (span2_ok _ _) rfl rfl rfl ?_
  simp only [go_sem, Nat.reduceEqDiff]
  refine ACallL.quiet1 (seen2_ok _ _ _ _ _) rfl rfl rfl ?_
  simp only [go_sem, Nat.reduceEqDiff, Nat.reduceAdd, Nat.reduceLT]
  refine lend1 (m := 3) hs1 rfl rfl rfl ?_
  rintro o a ⟨rfl, rfl⟩
  simp only [go_sem, Nat.reduceEqDiff, Out.ren, E.ren, E.rens, AO.ren]
  refine ACallL.quiet1 h30 rfl rfl rfl ?_
  simp only [go_sem, Nat.reduceEqDiff, Nat.reduceAdd, beq_self_eq_true, bne_self_eq_false, beq_self_eq_true, bne_self_eq_false]
  repeat' (first | refine ACallL.quiet1 (span2_ok _ _) rfl rfl rfl ?_ | simp only [go_sem, Nat.reduceEqDiff, Nat.reduceAdd, Bool.not_true, undef, beq_self_eq_true, bne_self_eq_false, Bool.and_true, undef, toKey2, kEq2, beq_self_eq_true, bne_self_eq_false, Bool.and_true, Bool.not_true])
  exact finL_ret [] ⟨rfl, rfl, rfl, rfl, _, rfl, res_mk rfl⟩
end Go.Proofs.YtafcdpmcmmfbhaaDoor
