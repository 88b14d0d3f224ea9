/- Proved here: laws that the statements need (BoC1, BoA, BoB, BoD, BoE, BoF). No conditions but those that each law states. -/
import Derived.Test.YtafcdpmcmmfbhaaDoorFL
import Derived.Test.YtafcdpmcmmfbhaaDoorProg

set_option linter.unusedSimpArgs false
set_option linter.unusedVariables false

/- Compiled code of functions, printed by program; each is checked to be the program's. No conditions. -/
namespace Go.Proofs.YtafcdpmcmmfbhaaDoor
open Go Go.Ab
/-- dipworks/boat.answer -/
def c48 : AC :=
 .seq (.reg [⟨(some 6), none, .mov (.tmp 2)⟩,
 ⟨(some 7), none, .nilcmp true (.tmp 6)⟩])
 (.cond (.tmp 7) (.seq (.reg [⟨(some 9), none, .mov (.tmp 2)⟩,
 ⟨(some 10), none, .tass 108 true (.tmp 9)⟩,
 ⟨(some 8), none, .mov (.tmp 10)⟩,
 ⟨(some 11), none, .ext (.tmp 8) 0⟩,
 ⟨(some 12), none, .ext (.tmp 8) 1⟩,
 ⟨(some 3), none, .mov (.tmp 11)⟩,
 ⟨(some 4), none, .mov (.tmp 12)⟩])
 (.seq (.seq (.reg [⟨(some 13), none, .mov (.tmp 4)⟩,
 ⟨(some 14), none, .un .not (.tmp 13)⟩])
 (.cond (.tmp 14) (.reg [⟨(some 15), none, .mov (.tmp 2)⟩,
 ⟨none, none, .pan (.tmp 15)⟩])
 (.skip)))
 (.reg [⟨(some 16), none, .mov (.tmp 0)⟩,
 ⟨(some 17), none, .mov (.tmp 3)⟩,
 ⟨(some 18), none, .nilck (.tmp 16)⟩,
 ⟨none, none, .store 1 (.tmp 18) (.tmp 17)⟩])))
 (.skip))
theorem a48 : FnA Tryd.prog 48 19 5 2 c48 1 := ⟨Tryd.f48, _, _, _, _, _, Tryd.func48, rfl, by decide, rfl, by decide, rfl, rfl, rfl, rfl, rfl, rfl, rfl, by decide, by decide, by kernel_rfl⟩
/-- dipworks/boat.open -/
def c49 : AC :=
 .seq (.reg [⟨(some 2), none, .box (.tmp 0)⟩,
 ⟨(some 4), none, .mov (.lit (.pointer none))⟩])
 (.seq (.reg [⟨(some 12), none, .faddr 0 (.tmp 2)⟩,
 ⟨(some 13), none, .load false 1 (.tmp 12)⟩,
 ⟨(some 14), none, .call (.fn 58) [(.tmp 13), (.lit (.int .i64 1)), (.lit (.int .i64 8))]⟩,
 ⟨(some 15), none, .mov (.tmp 14)⟩,
 ⟨(some 16), (some (15, true)), .faddr 1 (.tmp 2)⟩,
 ⟨(some 17), (some (15, true)), .load false 1 (.tmp 16)⟩,
 ⟨(some 18), (some (15, true)), .call (.fn 58) [(.tmp 17), (.lit (.int .i64 1)), (.lit (.int .i64 6))]⟩,
 ⟨(some 19), none, .pick (.tmp 15) (.tmp 18) (.lit (.bool false))⟩,
 ⟨(some 20), none, .mov (.tmp 19)⟩,
 ⟨(some 21), (some (20, true)), .faddr 2 (.tmp 2)⟩,
 ⟨(some 22), (some (20, true)), .load false 1 (.tmp 21)⟩,
 ⟨(some 23), (some (20, true)), .call (.fn 58) [(.tmp 22), (.lit (.int .i64 0)), (.lit (.int .i64 3))]⟩,
 ⟨(some 24), none, .pick (.tmp 20) (.tmp 23) (.lit (.bool false))⟩,
 ⟨(some 25), none, .mov (.tmp 24)⟩,
 ⟨(some 26), (some (25, true)), .faddr 3 (.tmp 2)⟩,
 ⟨(some 27), (some (25, true)), .load false 1 (.tmp 26)⟩,
 ⟨(some 28), (some (25, true)), .call (.fn 58) [(.tmp 27), (.lit (.int .i64 0)), (.lit (.int .i64 12))]⟩,
 ⟨(some 29), none, .pick (.tmp 25) (.tmp 28) (.lit (.bool false))⟩,
 ⟨(some 30), none, .mov (.tmp 29)⟩,
 ⟨(some 31), (some (30, true)), .faddr 4 (.tmp 2)⟩,
 ⟨(some 32), (some (30, true)), .load false 1 (.tmp 31)⟩,
 ⟨(some 33), (some (30, true)), .len (.tmp 32)⟩,
 ⟨(some 34), (some (30, true)), .bin .leq (.tmp 33) (.lit (.int .i64 4))⟩,
 ⟨(some 35), none, .pick (.tmp 30) (.tmp 34) (.lit (.bool false))⟩,
 ⟨(some 36), none, .call (.fn 73) [(.tmp 35), (.lit (.int .i64 1))]⟩])
 (.seq (.seq (.reg [⟨(some 37), none, .faddr 4 (.tmp 2)⟩,
 ⟨(some 38), none, .load false 1 (.tmp 37)⟩,
 ⟨(some 39), none, .len (.tmp 38)⟩,
 ⟨(some 40), none, .mov (.lit (.int .i64 0))⟩])
 (.block 0 (.loop (.seq (.reg [⟨(some 41), none, .bin .lss (.tmp 40) (.tmp 39)⟩])
 (.seq (.cond (.tmp 41) (.skip)
 (.exit 0))
 (.seq (.block 1 (.seq (.reg [⟨(some 42), none, .iaddr 1 (.tmp 38) (.tmp 40)⟩,
 ⟨(some 43), none, .load false 1 (.tmp 42)⟩,
 ⟨(some 6), none, .mov (.tmp 43)⟩])
 (.seq (.reg [⟨(some 44), none, .mov (.tmp 6)⟩,
 ⟨(some 45), none, .len (.tmp 44)⟩,
 ⟨(some 46), none, .bin .leq (.tmp 45) (.lit (.int .i64 5))⟩,
 ⟨(some 47), none, .call (.fn 73) [(.tmp 46), (.lit (.int .i64 1))]⟩])
 (.seq (.reg [⟨(some 7), none, .mov (.lit (.int .i64 0))⟩])
 (.seq (.reg [⟨(some 48), none, .mov (.tmp 6)⟩,
 ⟨(some 49), none, .len (.tmp 48)⟩,
 ⟨(some 50), none, .mov (.lit (.int .i64 0))⟩])
 (.block 2 (.loop (.seq (.reg [⟨(some 51), none, .bin .lss (.tmp 50) (.tmp 49)⟩])
 (.seq (.cond (.tmp 51) (.skip)
 (.exit 2))
 (.seq (.block 3 (.seq (.reg [⟨(some 52), none, .iaddr 5 (.tmp 48) (.tmp 50)⟩,
 ⟨(some 53), none, .load true 5 (.tmp 52)⟩,
 ⟨(some 9), none, .alloc [(.int .i64 0), (.int .i64 0), (.int .i64 0), (.int .i64 0), (.int .i64 0)]⟩,
 ⟨none, none, .store 5 (.tmp 9) (.tmp 53)⟩])
 (.seq (.reg [⟨(some 54), none, .faddr 0 (.tmp 9)⟩,
 ⟨(some 55), none, .load false 1 (.tmp 54)⟩,
 ⟨(some 56), none, .mov (.tmp 7)⟩,
 ⟨(some 57), none, .faddr 3 (.tmp 2)⟩,
 ⟨(some 58), none, .load false 1 (.tmp 57)⟩,
 ⟨(some 59), none, .call (.fn 58) [(.tmp 55), (.tmp 56), (.tmp 58)]⟩,
 ⟨(some 60), none, .mov (.tmp 59)⟩,
 ⟨(some 61), (some (60, true)), .faddr 1 (.tmp 9)⟩,
 ⟨(some 62), (some (60, true)), .load true 2 (.tmp 61)⟩,
 ⟨(some 63), (some (60, true)), .faddr 0 (.tmp 2)⟩,
 ⟨(some 64), (some (60, true)), .load false 1 (.tmp 63)⟩,
 ⟨(some 65), (some (60, true)), .bin .sub (.tmp 64) (.lit (.int .i64 1))⟩,
 ⟨(some 66), (some (60, true)), .call (.fn 79) [(.tmp 62), (.tmp 65)]⟩,
 ⟨(some 67), none, .pick (.tmp 60) (.tmp 66) (.lit (.bool false))⟩,
 ⟨(some 68), none, .mov (.tmp 67)⟩,
 ⟨(some 69), (some (68, true)), .faddr 3 (.tmp 9)⟩,
 ⟨(some 70), (some (68, true)), .load true 2 (.tmp 69)⟩,
 ⟨(some 71), (some (68, true)), .faddr 1 (.tmp 2)⟩,
 ⟨(some 72), (some (68, true)), .load false 1 (.tmp 71)⟩,
 ⟨(some 73), (some (68, true)), .bin .sub (.tmp 72) (.lit (.int .i64 1))⟩,
 ⟨(some 74), (some (68, true)), .call (.fn 79) [(.tmp 70), (.tmp 73)]⟩,
 ⟨(some 75), none, .pick (.tmp 68) (.tmp 74) (.lit (.bool false))⟩,
 ⟨(some 76), none, .call (.fn 73) [(.tmp 75), (.lit (.int .i64 1))]⟩])
 (.reg [⟨(some 77), none, .faddr 0 (.tmp 9)⟩,
 ⟨(some 78), none, .load false 1 (.tmp 77)⟩,
 ⟨(some 7), none, .mov (.tmp 78)⟩]))))
 (.reg [⟨(some 79), none, .bin .add (.tmp 50) (.lit (.int .i64 1))⟩,
 ⟨(some 50), none, .mov (.tmp 79)⟩])))))))))))
 (.reg [⟨(some 80), none, .bin .add (.tmp 40) (.lit (.int .i64 1))⟩,
 ⟨(some 40), none, .mov (.tmp 80)⟩])))))))
 (.seq (.reg [⟨(some 81), none, .mov (.tmp 1)⟩,
 ⟨(some 82), none, .call (.fn 73) [(.tmp 81), (.lit (.int .i64 2))]⟩])
 (.seq (.reg [⟨(some 83), none, .load true 5 (.tmp 2)⟩,
 ⟨(some 84), none, .mkmap (some [(some .i64), (some .i64), (some .i64), (some .i64)], none)⟩,
 ⟨(some 85), none, .build [(.int .i64 0), (.int .i64 0), (.int .i64 0), (.int .i64 0), (.slice none 0 0), (.int .u64 0), (.int .u64 0), (.int .u64 0), (.map none)] [(0, 5, (.tmp 83)), (8, 1, (.tmp 84))]⟩,
 ⟨(some 86), none, .box (.tmp 85)⟩,
 ⟨(some 10), none, .mov (.tmp 86)⟩])
 (.seq (.seq (.reg [⟨(some 87), none, .faddr 0 (.tmp 2)⟩,
 ⟨(some 88), none, .load false 1 (.tmp 87)⟩,
 ⟨(some 89), none, .faddr 1 (.tmp 2)⟩,
 ⟨(some 90), none, .load false 1 (.tmp 89)⟩,
 ⟨(some 91), none, .bin .mul (.tmp 88) (.tmp 90)⟩,
 ⟨(some 92), none, .mov (.lit (.int .i64 0))⟩])
 (.block 4 (.loop (.seq (.reg [⟨(some 93), none, .bin .lss (.tmp 92) (.tmp 91)⟩])
 (.seq (.cond (.tmp 93) (.skip)
 (.exit 4))
 (.seq (.block 5 (.seq (.reg [⟨(some 94), none, .mov (.tmp 92)⟩,
 ⟨(some 11), none, .mov (.tmp 94)⟩])
 (.seq (.draw (.step ⟨(some 95), none, .mov (.tmp 10)⟩ (
 .step ⟨(some 96), none, .nilck (.tmp 95)⟩ (
 .step ⟨(some 97), none, .faddr 5 (.tmp 96)⟩ (
 .step ⟨(some 98), none, .load false 1 (.tmp 97)⟩ (
 .step ⟨(some 99), none, .mov (.tmp 11)⟩ (
 .step ⟨(some 100), none, .bin .shl (.lit (.int .u64 1)) (.tmp 99)⟩ (
 .step ⟨(some 101), none, .bin .or (.tmp 98) (.tmp 100)⟩ (
 .step ⟨(some 102), none, .nilck (.tmp 95)⟩ (
 .step ⟨(some 103), none, .faddr 5 (.tmp 102)⟩ (
 .ev ⟨none, none, .store 1 (.tmp 103) (.tmp 101)⟩ [⟨(some 102), none, .nilck (.tmp 95)⟩] (
 .done)
 (.stop))))))))))))
 (.seq (.block 6 (.seq (.reg [⟨(some 105), none, .mov (.tmp 11)⟩,
 ⟨(some 106), none, .faddr 0 (.tmp 2)⟩,
 ⟨(some 107), none, .load false 1 (.tmp 106)⟩,
 ⟨(some 108), none, .bin .rem (.tmp 105) (.tmp 107)⟩,
 ⟨(some 109), none, .bin .eql (.tmp 108) (.lit (.int .i64 0))⟩,
 ⟨(some 104), none, .mov (.tmp 109)⟩])
 (.cond (.tmp 104) (.draw (.step ⟨(some 110), none, .mov (.tmp 10)⟩ (
 .step ⟨(some 111), none, .nilck (.tmp 110)⟩ (
 .step ⟨(some 112), none, .faddr 6 (.tmp 111)⟩ (
 .step ⟨(some 113), none, .load false 1 (.tmp 112)⟩ (
 .step ⟨(some 114), none, .mov (.tmp 11)⟩ (
 .step ⟨(some 115), none, .bin .shl (.lit (.int .u64 1)) (.tmp 114)⟩ (
 .step ⟨(some 116), none, .bin .or (.tmp 113) (.tmp 115)⟩ (
 .step ⟨(some 117), none, .nilck (.tmp 110)⟩ (
 .step ⟨(some 118), none, .faddr 6 (.tmp 117)⟩ (
 .ev ⟨none, none, .store 1 (.tmp 118) (.tmp 116)⟩ [⟨(some 117), none, .nilck (.tmp 110)⟩] (
 .done)
 (.stop))))))))))))
 (.skip))))
 (.block 7 (.seq (.draw (.step ⟨(some 120), none, .mov (.tmp 11)⟩ (
 .step ⟨(some 121), none, .faddr 0 (.tmp 2)⟩ (
 .step ⟨(some 122), none, .load false 1 (.tmp 121)⟩ (
 .step ⟨(some 123), none, .bin .rem (.tmp 120) (.tmp 122)⟩ (
 .step ⟨(some 124), none, .faddr 0 (.tmp 2)⟩ (
 .step ⟨(some 125), none, .load false 1 (.tmp 124)⟩ (
 .step ⟨(some 126), none, .bin .sub (.tmp 125) (.lit (.int .i64 1))⟩ (
 .step ⟨(some 127), none, .bin .eql (.tmp 123) (.tmp 126)⟩ (
 .step ⟨(some 119), none, .mov (.tmp 127)⟩ (
 .done)))))))))))
 (.cond (.tmp 119) (.draw (.step ⟨(some 128), none, .mov (.tmp 10)⟩ (
 .step ⟨(some 129), none, .nilck (.tmp 128)⟩ (
 .step ⟨(some 130), none, .faddr 7 (.tmp 129)⟩ (
 .step ⟨(some 131), none, .load false 1 (.tmp 130)⟩ (
 .step ⟨(some 132), none, .mov (.tmp 11)⟩ (
 .step ⟨(some 133), none, .bin .shl (.lit (.int .u64 1)) (.tmp 132)⟩ (
 .step ⟨(some 134), none, .bin .or (.tmp 131) (.tmp 133)⟩ (
 .step ⟨(some 135), none, .nilck (.tmp 128)⟩ (
 .step ⟨(some 136), none, .faddr 7 (.tmp 135)⟩ (
 .ev ⟨none, none, .store 1 (.tmp 136) (.tmp 134)⟩ [⟨(some 135), none, .nilck (.tmp 128)⟩] (
 .done)
 (.stop))))))))))))
 (.skip))))))))
 (.reg [⟨(some 137), none, .bin .add (.tmp 92) (.lit (.int .i64 1))⟩,
 ⟨(some 92), none, .mov (.tmp 137)⟩])))))))
 (.seq (.reg [⟨(some 138), none, .mov (.tmp 10)⟩,
 ⟨(some 4), none, .mov (.tmp 138)⟩])
 (.ret)))))))
theorem k49 : FnC Tryd.prog 49 139 [] [] [.tmp 4] c49 2 := ⟨Tryd.f49, _, Tryd.func49, rfl, by decide, rfl, by decide, by kernel_rfl, by kernel_rfl⟩
/-- dipworks/boat.isBoat -/
def c50 : AC :=
 .seq (.reg [⟨(some 2), none, .box (.tmp 0)⟩,
 ⟨(some 4), none, .mov (.lit (.bool false))⟩])
 (.seq (.reg [⟨(some 5), none, .mov (.tmp 1)⟩,
 ⟨(some 6), none, .faddr 4 (.tmp 2)⟩,
 ⟨(some 7), none, .load false 1 (.tmp 6)⟩,
 ⟨(some 8), none, .len (.tmp 7)⟩,
 ⟨(some 9), none, .bin .sub (.tmp 8) (.lit (.int .i64 1))⟩,
 ⟨(some 10), none, .call (.fn 58) [(.tmp 5), (.lit (.int .i64 0)), (.tmp 9)]⟩,
 ⟨(some 4), none, .mov (.tmp 10)⟩])
 (.ret))
theorem k50 : FnC Tryd.prog 50 11 [] [] [.tmp 4] c50 2 := ⟨Tryd.f50, _, Tryd.func50, rfl, by decide, rfl, by decide, by kernel_rfl, by kernel_rfl⟩
/-- dipworks/boat.isMinute -/
def c51 : AC :=
 .seq (.reg [⟨(some 2), none, .box (.tmp 0)⟩,
 ⟨(some 4), none, .mov (.lit (.bool false))⟩])
 (.seq (.reg [⟨(some 5), none, .mov (.tmp 1)⟩,
 ⟨(some 6), none, .faddr 3 (.tmp 2)⟩,
 ⟨(some 7), none, .load false 1 (.tmp 6)⟩,
 ⟨(some 8), none, .call (.fn 58) [(.tmp 5), (.lit (.int .i64 0)), (.tmp 7)]⟩,
 ⟨(some 4), none, .mov (.tmp 8)⟩])
 (.ret))
theorem k51 : FnC Tryd.prog 51 9 [] [] [.tmp 4] c51 2 := ⟨Tryd.f51, _, Tryd.func51, rfl, by decide, rfl, by decide, by kernel_rfl, by kernel_rfl⟩
/-- (*dipworks/boat.water).told -/
def c52 : AC :=
 .seq (.reg [⟨(some 4), none, .alloc [(.int .u64 0), (.int .u64 0), (.int .u64 0), (.int .u64 0), (.int .u64 0), (.int .u64 0), (.int .u64 0), (.int .u64 0), (.int .u64 0), (.int .u64 0), (.int .u64 0), (.int .u64 0), (.int .u64 0)]⟩])
 (.seq (.reg [⟨(some 5), none, .mov (.tmp 0)⟩,
 ⟨(some 6), none, .mov (.tmp 0)⟩,
 ⟨(some 7), none, .mov (.tmp 1)⟩,
 ⟨(some 8), none, .call (.fn 76) [(.tmp 6), (.tmp 7)]⟩,
 ⟨(some 9), none, .call (.fn 72) [(.tmp 5), (.tmp 8)]⟩,
 ⟨(some 10), none, .call (.fn 73) [(.tmp 9), (.lit (.int .i64 10))]⟩])
 (.seq (.reg [⟨(some 11), none, .mov (.tmp 0)⟩,
 ⟨(some 12), none, .mov (.tmp 0)⟩,
 ⟨(some 13), none, .mov (.tmp 1)⟩,
 ⟨(some 14), none, .call (.fn 76) [(.tmp 12), (.tmp 13)]⟩,
 ⟨(some 15), none, .call (.fn 80) [(.tmp 11), (.tmp 14)]⟩,
 ⟨none, none, .store 13 (.tmp 4) (.tmp 15)⟩])
 (.ret)))
theorem k52 : FnC Tryd.prog 52 16 [4] [] [.cell 4 true 13] c52 2 := ⟨Tryd.f52, _, Tryd.func52, rfl, by decide, rfl, by decide, by kernel_rfl, by kernel_rfl⟩
/-- (*dipworks/boat.water).span -/
def c55 : AC :=
 .seq (.reg [⟨(some 4), none, .alloc [(.int .i64 0), (.int .i64 0)]⟩])
 (.seq (.draw (.step ⟨(some 5), none, .mov (.tmp 1)⟩ (
 .step ⟨(some 7), none, .mov (.tmp 0)⟩ (
 .step ⟨(some 8), none, .nilck (.tmp 7)⟩ (
 .step ⟨(some 9), none, .faddr 0 (.tmp 8)⟩ (
 .step ⟨(some 10), none, .faddr 0 (.tmp 9)⟩ (
 .step ⟨(some 11), none, .load false 1 (.tmp 10)⟩ (
 .step ⟨(some 13), none, .mov (.tmp 1)⟩ (
 .step ⟨(some 16), none, .mov (.tmp 0)⟩ (
 .step ⟨(some 17), none, .nilck (.tmp 16)⟩ (
 .step ⟨(some 18), none, .faddr 0 (.tmp 17)⟩ (
 .step ⟨(some 19), none, .faddr 0 (.tmp 18)⟩ (
 .step ⟨(some 20), none, .load false 1 (.tmp 19)⟩ (
 .ev ⟨(some 6), none, .call (.fn 81) [(.tmp 5)]⟩ [⟨(some 20), none, .load false 1 (.tmp 19)⟩, ⟨(some 19), none, .faddr 0 (.tmp 18)⟩, ⟨(some 18), none, .faddr 0 (.tmp 17)⟩, ⟨(some 17), none, .nilck (.tmp 16)⟩, ⟨(some 11), none, .load false 1 (.tmp 10)⟩, ⟨(some 10), none, .faddr 0 (.tmp 9)⟩, ⟨(some 9), none, .faddr 0 (.tmp 8)⟩, ⟨(some 8), none, .nilck (.tmp 7)⟩] (
 .step ⟨(some 12), none, .bin .quo (.tmp 6) (.tmp 11)⟩ (
 .ev ⟨(some 14), none, .call (.fn 82) [(.tmp 13)]⟩ [⟨(some 20), none, .load false 1 (.tmp 19)⟩, ⟨(some 19), none, .faddr 0 (.tmp 18)⟩, ⟨(some 18), none, .faddr 0 (.tmp 17)⟩, ⟨(some 17), none, .nilck (.tmp 16)⟩, ⟨(some 11), none, .load false 1 (.tmp 10)⟩, ⟨(some 10), none, .faddr 0 (.tmp 9)⟩, ⟨(some 9), none, .faddr 0 (.tmp 8)⟩, ⟨(some 8), none, .nilck (.tmp 7)⟩] (
 .step ⟨(some 15), none, .bin .sub (.tmp 14) (.lit (.int .i64 1))⟩ (
 .step ⟨(some 21), none, .bin .quo (.tmp 15) (.tmp 20)⟩ (
 .step ⟨(some 22), none, .build [(.int .i64 0), (.int .i64 0)] [(0, 1, (.tmp 12)), (1, 1, (.tmp 21))]⟩ (
 .ev ⟨none, none, .store 2 (.tmp 4) (.tmp 22)⟩ [] (
 .done)
 (.stop)))))
 (.stop)))
 (.stop)))))))))))))))
 (.ret))
theorem k55 : FnC Tryd.prog 55 23 [4] [] [.cell 4 true 2] c55 2 := ⟨Tryd.f55, _, Tryd.func55, rfl, by decide, rfl, by decide, by kernel_rfl, by kernel_rfl⟩
/-- (*dipworks/boat.water).nearest -/
def c56 : AC :=
 .seq (.reg [⟨(some 2), none, .box (.tmp 0)⟩,
 ⟨(some 3), none, .box (.tmp 1)⟩,
 ⟨(some 4), none, .alloc [(.int .i64 0), (.int .i64 0)]⟩])
 (.seq (.reg [⟨(some 9), none, .load false 1 (.tmp 2)⟩,
 ⟨(some 10), none, .load false 1 (.tmp 3)⟩,
 ⟨(some 11), none, .call (.fn 52) [(.tmp 9), (.tmp 10)]⟩,
 ⟨(some 5), none, .alloc [(.int .u64 0), (.int .u64 0), (.int .u64 0), (.int .u64 0), (.int .u64 0), (.int .u64 0), (.int .u64 0), (.int .u64 0), (.int .u64 0), (.int .u64 0), (.int .u64 0), (.int .u64 0), (.int .u64 0)]⟩,
 ⟨none, none, .store 13 (.tmp 5) (.tmp 11)⟩])
 (.seq (.seq (.gcp)
 (.reg [⟨(some 12), none, .load false 1 (.tmp 2)⟩,
 ⟨(some 13), none, .nilck (.tmp 12)⟩,
 ⟨(some 14), none, .faddr 0 (.tmp 13)⟩,
 ⟨(some 15), none, .faddr 3 (.tmp 14)⟩,
 ⟨(some 16), none, .load false 1 (.tmp 15)⟩,
 ⟨(some 17), none, .bin .add (.tmp 16) (.lit (.int .i64 1))⟩,
 ⟨(some 18), none, .slc (some 13) 1 (.tmp 5) none (some (.tmp 17))⟩,
 ⟨(some 19), none, .call (.fn 83) [(.tmp 18)]⟩,
 ⟨(some 6), none, .mov (.tmp 19)⟩]))
 (.seq (.reg [⟨(some 21), none, .load false 1 (.tmp 2)⟩,
 ⟨(some 22), none, .nilck (.tmp 21)⟩,
 ⟨(some 23), none, .faddr 0 (.tmp 22)⟩,
 ⟨(some 24), none, .faddr 1 (.tmp 23)⟩,
 ⟨(some 25), none, .load false 1 (.tmp 24)⟩,
 ⟨(some 26), none, .call (.fn 70) [(.tmp 25)]⟩,
 ⟨(some 27), none, .mkfn (.func 84) [] [(.tmp 2), (.tmp 3)]⟩,
 ⟨(some 28), none, .build [.nilFunc] [(0, 1, (.tmp 27))]⟩,
 ⟨(some 29), none, .call (.fn 69) [(.tmp 26), (.tmp 28)]⟩,
 ⟨(some 20), none, .mov (.tmp 29)⟩,
 ⟨(some 30), none, .ext (.tmp 20) 0⟩,
 ⟨(some 31), none, .ext (.tmp 20) 1⟩,
 ⟨(some 7), none, .mov (.tmp 30)⟩,
 ⟨(some 8), none, .mov (.tmp 31)⟩])
 (.seq (.reg [⟨(some 32), none, .load false 1 (.tmp 2)⟩,
 ⟨(some 33), none, .mov (.tmp 6)⟩,
 ⟨(some 34), none, .call (.fn 55) [(.tmp 32), (.tmp 33)]⟩,
 ⟨(some 35), none, .field 0 false 1 (.tmp 34)⟩,
 ⟨(some 36), none, .mov (.tmp 7)⟩,
 ⟨(some 37), none, .build [(.int .i64 0), (.int .i64 0)] [(0, 1, (.tmp 35)), (1, 1, (.tmp 36))]⟩,
 ⟨none, none, .store 2 (.tmp 4) (.tmp 37)⟩])
 (.ret)))))
theorem k56 : FnC Tryd.prog 56 38 [4] [2] [.cell 4 true 2] c56 2 := ⟨Tryd.f56, _, Tryd.func56, rfl, by decide, rfl, by decide, by kernel_rfl, by kernel_rfl⟩
/-- dipworks/boat.within -/
def c58 : AC :=
 .seq (.reg [⟨(some 6), none, .mov (.lit (.bool false))⟩])
 (.seq (.reg [⟨(some 7), none, .mov (.tmp 1)⟩,
 ⟨(some 8), none, .mov (.tmp 0)⟩,
 ⟨(some 9), none, .bin .leq (.tmp 7) (.tmp 8)⟩,
 ⟨(some 10), none, .mov (.tmp 9)⟩,
 ⟨(some 11), (some (10, true)), .mov (.tmp 0)⟩,
 ⟨(some 12), (some (10, true)), .mov (.tmp 2)⟩,
 ⟨(some 13), (some (10, true)), .bin .leq (.tmp 11) (.tmp 12)⟩,
 ⟨(some 14), none, .pick (.tmp 10) (.tmp 13) (.lit (.bool false))⟩,
 ⟨(some 6), none, .mov (.tmp 14)⟩])
 (.ret))
theorem k58 : FnC Tryd.prog 58 15 [] [] [.tmp 6] c58 3 := ⟨Tryd.f58, _, Tryd.func58, rfl, by decide, rfl, by decide, by kernel_rfl, by kernel_rfl⟩
/-- (*dipworks/boat.water).minutes -/
def c60 : AC :=
 .seq (.reg [⟨(some 2), none, .box (.tmp 0)⟩,
 ⟨(some 3), none, .box (.tmp 1)⟩,
 ⟨(some 4), none, .mov (.lit .nilFunc)⟩])
 (.seq (.reg [⟨(some 5), none, .mkfn (.func 87) [] [(.tmp 2), (.tmp 3)]⟩,
 ⟨(some 4), none, .mov (.tmp 5)⟩])
 (.ret))
theorem k60 : FnC Tryd.prog 60 6 [] [] [.tmp 4] c60 2 := ⟨Tryd.f60, _, Tryd.func60, rfl, by decide, rfl, by decide, by kernel_rfl, by kernel_rfl⟩
/-- (dipworks/boat.places).has -/
def c64 : AC :=
 .seq (.reg [⟨(some 4), none, .mov (.lit (.bool false))⟩])
 (.seq (.reg [⟨(some 5), none, .mov (.tmp 0)⟩,
 ⟨(some 6), none, .mov (.tmp 1)⟩,
 ⟨(some 7), none, .bin .shr (.tmp 5) (.tmp 6)⟩,
 ⟨(some 8), none, .bin .and (.tmp 7) (.lit (.int .u64 1))⟩,
 ⟨(some 9), none, .bin .eql (.tmp 8) (.lit (.int .u64 1))⟩,
 ⟨(some 4), none, .mov (.tmp 9)⟩])
 (.ret))
theorem k64 : FnC Tryd.prog 64 10 [] [] [.tmp 4] c64 2 := ⟨Tryd.f64, _, Tryd.func64, rfl, by decide, rfl, by decide, by kernel_rfl, by kernel_rfl⟩
/-- (dipworks/boat.places).size -/
def c65 : AC :=
 .seq (.reg [⟨(some 2), none, .mov (.lit (.int .i64 0))⟩])
 (.seq (.reg [⟨(some 3), none, .mov (.tmp 0)⟩,
 ⟨(some 4), none, .call (.fn 89) [(.tmp 3)]⟩,
 ⟨(some 2), none, .mov (.tmp 4)⟩])
 (.ret))
theorem k65 : FnC Tryd.prog 65 5 [] [] [.tmp 2] c65 1 := ⟨Tryd.f65, _, Tryd.func65, rfl, by decide, rfl, by decide, by kernel_rfl, by kernel_rfl⟩
/-- dipworks/boat.Who$1 -/
def c66 : AC :=
 .seq (.draw (.step ⟨(some 10), none, .load false 1 (.tmp 1)⟩ (
 .step ⟨(some 11), none, .mov (.tmp 0)⟩ (
 .step ⟨(some 13), none, .load false 1 (.tmp 2)⟩ (
 .ev ⟨(some 12), none, .call (.fn 52) [(.tmp 10), (.tmp 11)]⟩ [⟨(some 13), none, .load false 1 (.tmp 2)⟩] (
 .step ⟨(some 14), none, .aidx 13 false 1 (.tmp 12) (.tmp 13)⟩ (
 .step ⟨(some 9), none, .mov (.tmp 14)⟩ (
 .done)))
 (.stop))))))
 (.seq (.reg [⟨(some 15), none, .load false 1 (.tmp 3)⟩,
 ⟨(some 16), none, .mov (.tmp 9)⟩,
 ⟨(some 17), none, .load false 1 (.tmp 4)⟩,
 ⟨(some 18), none, .call (.tmp 15) [(.tmp 16), (.tmp 17)]⟩])
 (.cond (.tmp 18) (.seq (.draw (.step ⟨(some 19), none, .load false 1 (.tmp 5)⟩ (
 .step ⟨(some 20), none, .mov (.tmp 0)⟩ (
 .step ⟨(some 21), none, .bin .shl (.lit (.int .i64 1)) (.tmp 20)⟩ (
 .step ⟨(some 22), none, .bin .or (.tmp 19) (.tmp 21)⟩ (
 .ev ⟨none, none, .store 1 (.tmp 5) (.tmp 22)⟩ [] (
 .done)
 (.stop)))))))
 (.seq (.reg [⟨(some 23), none, .load false 1 (.tmp 6)⟩,
 ⟨(some 24), none, .mov (.tmp 9)⟩,
 ⟨(some 25), none, .call (.tmp 23) [(.tmp 24)]⟩,
 ⟨(some 26), none, .bin .eql (.tmp 25) (.lit (.int .i64 1))⟩])
 (.cond (.tmp 26) (.draw (.step ⟨(some 27), none, .load false 1 (.tmp 7)⟩ (
 .step ⟨(some 28), none, .mov (.tmp 0)⟩ (
 .step ⟨(some 29), none, .bin .shl (.lit (.int .i64 1)) (.tmp 28)⟩ (
 .step ⟨(some 30), none, .bin .or (.tmp 27) (.tmp 29)⟩ (
 .ev ⟨none, none, .store 1 (.tmp 7) (.tmp 30)⟩ [] (
 .done)
 (.stop)))))))
 (.skip))))
 (.skip)))
theorem k66 : FnC Tryd.prog 66 31 [] [] [] c66 8 := ⟨Tryd.f66, _, Tryd.func66, rfl, by decide, rfl, by decide, by kernel_rfl, by kernel_rfl⟩
/-- dipworks/boat.first[int] -/
def c69 : AC :=
 .seq (.reg [⟨(some 3), none, .box (.tmp 1)⟩,
 ⟨(some 4), none, .mov (.lit (.int .i64 0))⟩,
 ⟨(some 5), none, .mov (.lit (.bool false))⟩])
 (.seq (.seq (.reg [⟨(some 8), none, .mov (.tmp 0)⟩,
 ⟨(some 9), none, .len (.tmp 8)⟩,
 ⟨(some 10), none, .mov (.lit (.int .i64 0))⟩])
 (.block 0 (.loop (.seq (.reg [⟨(some 11), none, .bin .lss (.tmp 10) (.tmp 9)⟩])
 (.seq (.cond (.tmp 11) (.skip)
 (.exit 0))
 (.seq (.block 1 (.seq (.reg [⟨(some 12), none, .iaddr 1 (.tmp 8) (.tmp 10)⟩,
 ⟨(some 13), none, .load false 1 (.tmp 12)⟩,
 ⟨(some 7), none, .mov (.tmp 13)⟩])
 (.seq (.reg [⟨(some 14), none, .faddr 0 (.tmp 3)⟩,
 ⟨(some 15), none, .load false 1 (.tmp 14)⟩,
 ⟨(some 16), none, .mov (.tmp 7)⟩,
 ⟨(some 17), none, .call (.tmp 15) [(.tmp 16)]⟩])
 (.cond (.tmp 17) (.seq (.reg [⟨(some 18), none, .mov (.tmp 7)⟩,
 ⟨(some 4), none, .mov (.tmp 18)⟩,
 ⟨(some 5), none, .mov (.lit (.bool true))⟩])
 (.ret))
 (.skip)))))
 (.reg [⟨(some 19), none, .bin .add (.tmp 10) (.lit (.int .i64 1))⟩,
 ⟨(some 10), none, .mov (.tmp 19)⟩])))))))
 (.seq (.reg [⟨(some 20), none, .mov (.tmp 4)⟩,
 ⟨(some 4), none, .mov (.tmp 20)⟩,
 ⟨(some 5), none, .mov (.lit (.bool false))⟩])
 (.ret)))
theorem k69 : FnC Tryd.prog 69 21 [] [] [.tmp 4, .tmp 5] c69 2 := ⟨Tryd.f69, _, Tryd.func69, rfl, by decide, rfl, by decide, by kernel_rfl, by kernel_rfl⟩
/-- dipworks/boat.upTo -/
def c70 : AC :=
 .seq (.reg [⟨(some 2), none, .mov (.lit (.slice none 0 0))⟩])
 (.seq (.seq (.reg [⟨(some 4), none, .mov (.tmp 0)⟩,
 ⟨(some 5), none, .bin .add (.tmp 4) (.lit (.int .i64 1))⟩,
 ⟨(some 6), none, .mov (.lit (.int .i64 0))⟩])
 (.block 0 (.loop (.seq (.reg [⟨(some 7), none, .bin .lss (.tmp 6) (.tmp 5)⟩])
 (.seq (.cond (.tmp 7) (.skip)
 (.exit 0))
 (.seq (.block 1 (.seq (.reg [⟨(some 8), none, .mov (.tmp 6)⟩,
 ⟨(some 3), none, .mov (.tmp 8)⟩])
 (.reg [⟨(some 9), none, .mov (.tmp 2)⟩,
 ⟨(some 10), none, .mov (.tmp 3)⟩,
 ⟨(some 11), none, .bslice 1 (.int .i64 0) 1 [(0, (.tmp 10))]⟩,
 ⟨(some 12), none, .app 1 8 (.tmp 9) (.tmp 11)⟩,
 ⟨(some 2), none, .mov (.tmp 12)⟩])))
 (.reg [⟨(some 13), none, .bin .add (.tmp 6) (.lit (.int .i64 1))⟩,
 ⟨(some 6), none, .mov (.tmp 13)⟩])))))))
 (.seq (.reg [⟨(some 14), none, .mov (.tmp 2)⟩,
 ⟨(some 2), none, .mov (.tmp 14)⟩])
 (.ret)))
theorem k70 : FnC Tryd.prog 70 15 [] [] [.tmp 2] c70 1 := ⟨Tryd.f70, _, Tryd.func70, rfl, by decide, rfl, by decide, by kernel_rfl, by kernel_rfl⟩
/-- dipworks/boat.Speed$1 -/
def c71 : AC :=
 .seq (.reg [⟨(some 4), none, .mov (.lit (.bool false))⟩])
 (.seq (.reg [⟨(some 5), none, .load false 1 (.tmp 1)⟩,
 ⟨(some 6), none, .load false 1 (.tmp 2)⟩,
 ⟨(some 7), none, .mov (.tmp 0)⟩,
 ⟨(some 8), none, .build [(.int .i64 0), (.int .i64 0), (.int .i64 0), (.int .i64 0)] [(0, 1, (.tmp 6)), (3, 1, (.tmp 7))]⟩,
 ⟨(some 9), none, .call (.fn 72) [(.tmp 5), (.tmp 8)]⟩,
 ⟨(some 4), none, .mov (.tmp 9)⟩])
 (.ret))
theorem k71 : FnC Tryd.prog 71 10 [] [] [.tmp 4] c71 3 := ⟨Tryd.f71, _, Tryd.func71, rfl, by decide, rfl, by decide, by kernel_rfl, by kernel_rfl⟩
/-- (*dipworks/boat.water).can -/
def c72 : AC :=
 .seq (.reg [⟨(some 3), none, .box (.tmp 1)⟩,
 ⟨(some 4), none, .mov (.lit (.bool false))⟩])
 (.seq (.reg [⟨(some 5), none, .mov (.tmp 0)⟩,
 ⟨(some 6), none, .load true 4 (.tmp 3)⟩,
 ⟨(some 7), none, .call (.fn 80) [(.tmp 5), (.tmp 6)]⟩,
 ⟨(some 8), none, .aidx 13 false 1 (.tmp 7) (.lit (.int .i64 0))⟩,
 ⟨(some 9), none, .bin .neq (.tmp 8) (.lit (.int .u64 0))⟩,
 ⟨(some 4), none, .mov (.tmp 9)⟩])
 (.ret))
theorem k72 : FnC Tryd.prog 72 10 [] [] [.tmp 4] c72 2 := ⟨Tryd.f72, _, Tryd.func72, rfl, by decide, rfl, by decide, by kernel_rfl, by kernel_rfl⟩
/-- dipworks/boat.ask -/
def c73 : AC :=
 .seq (.reg [⟨(some 4), none, .mov (.tmp 0)⟩,
 ⟨(some 5), none, .un .not (.tmp 4)⟩])
 (.cond (.tmp 5) (.reg [⟨(some 6), none, .mov (.tmp 1)⟩,
 ⟨(some 7), none, .mkif 108 (.tmp 6)⟩,
 ⟨none, none, .pan (.tmp 7)⟩])
 (.skip))
theorem k73 : FnC Tryd.prog 73 8 [] [] [] c73 2 := ⟨Tryd.f73, _, Tryd.func73, rfl, by decide, rfl, by decide, by kernel_rfl, by kernel_rfl⟩
/-- math/bits.OnesCount -/
def c74 : AC :=
 .seq (.reg [⟨(some 2), none, .mov (.lit (.int .i64 0))⟩])
 (.seq (.cond (.lit (.bool false)) (.seq (.reg [⟨(some 3), none, .mov (.tmp 0)⟩,
 ⟨(some 4), none, .conv .u32 (.tmp 3)⟩,
 ⟨(some 5), none, .call (.fn 90) [(.tmp 4)]⟩,
 ⟨(some 2), none, .mov (.tmp 5)⟩])
 (.ret))
 (.skip))
 (.seq (.reg [⟨(some 6), none, .mov (.tmp 0)⟩,
 ⟨(some 7), none, .call (.fn 89) [(.tmp 6)]⟩,
 ⟨(some 2), none, .mov (.tmp 7)⟩])
 (.ret)))
theorem k74 : FnC Tryd.prog 74 8 [] [] [.tmp 2] c74 1 := ⟨Tryd.f74, _, Tryd.func74, rfl, by decide, rfl, by decide, by kernel_rfl, by kernel_rfl⟩
/-- dipworks/boat.Wrong$1 -/
def c75 : AC :=
 .seq (.reg [⟨(some 4), none, .mov (.lit (.bool false))⟩])
 (.seq (.reg [⟨(some 6), none, .load false 1 (.tmp 1)⟩,
 ⟨(some 7), none, .load false 1 (.tmp 2)⟩,
 ⟨(some 8), none, .call (.fn 76) [(.tmp 6), (.tmp 7)]⟩,
 ⟨(some 5), none, .alloc [(.int .i64 0), (.int .i64 0), (.int .i64 0), (.int .i64 0)]⟩,
 ⟨none, none, .store 4 (.tmp 5) (.tmp 8)⟩])
 (.seq (.reg [⟨(some 9), none, .mov (.tmp 0)⟩,
 ⟨(some 10), none, .faddr 1 (.tmp 5)⟩,
 ⟨none, none, .store 1 (.tmp 10) (.tmp 9)⟩])
 (.seq (.reg [⟨(some 11), none, .load false 1 (.tmp 1)⟩,
 ⟨(some 12), none, .load true 4 (.tmp 5)⟩,
 ⟨(some 13), none, .call (.fn 72) [(.tmp 11), (.tmp 12)]⟩,
 ⟨(some 4), none, .mov (.tmp 13)⟩])
 (.ret))))
theorem k75 : FnC Tryd.prog 75 14 [] [] [.tmp 4] c75 3 := ⟨Tryd.f75, _, Tryd.func75, rfl, by decide, rfl, by decide, by kernel_rfl, by kernel_rfl⟩
/-- (*dipworks/boat.water).plain -/
def c76 : AC :=
 .seq (.reg [⟨(some 4), none, .alloc [(.int .i64 0), (.int .i64 0), (.int .i64 0), (.int .i64 0)]⟩])
 (.seq (.reg [⟨(some 5), none, .mov (.tmp 1)⟩,
 ⟨(some 6), none, .mov (.tmp 0)⟩,
 ⟨(some 7), none, .nilck (.tmp 6)⟩,
 ⟨(some 8), none, .faddr 0 (.tmp 7)⟩,
 ⟨(some 9), none, .faddr 2 (.tmp 8)⟩,
 ⟨(some 10), none, .load false 1 (.tmp 9)⟩,
 ⟨(some 11), none, .build [(.int .i64 0), (.int .i64 0), (.int .i64 0), (.int .i64 0)] [(0, 1, (.tmp 5)), (3, 1, (.tmp 10))]⟩,
 ⟨none, none, .store 4 (.tmp 4) (.tmp 11)⟩])
 (.ret))
theorem k76 : FnC Tryd.prog 76 12 [4] [] [.cell 4 true 4] c76 2 := ⟨Tryd.f76, _, Tryd.func76, rfl, by decide, rfl, by decide, by kernel_rfl, by kernel_rfl⟩
/-- dipworks/boat.isSpan -/
def c79 : AC :=
 .seq (.reg [⟨(some 2), none, .box (.tmp 0)⟩,
 ⟨(some 4), none, .mov (.lit (.bool false))⟩])
 (.seq (.reg [⟨(some 5), none, .faddr 0 (.tmp 2)⟩,
 ⟨(some 6), none, .load false 1 (.tmp 5)⟩,
 ⟨(some 7), none, .bin .leq (.lit (.int .i64 0)) (.tmp 6)⟩,
 ⟨(some 8), none, .mov (.tmp 7)⟩,
 ⟨(some 9), (some (8, true)), .faddr 0 (.tmp 2)⟩,
 ⟨(some 10), (some (8, true)), .load false 1 (.tmp 9)⟩,
 ⟨(some 11), (some (8, true)), .faddr 1 (.tmp 2)⟩,
 ⟨(some 12), (some (8, true)), .load false 1 (.tmp 11)⟩,
 ⟨(some 13), (some (8, true)), .bin .leq (.tmp 10) (.tmp 12)⟩,
 ⟨(some 14), none, .pick (.tmp 8) (.tmp 13) (.lit (.bool false))⟩,
 ⟨(some 15), none, .mov (.tmp 14)⟩,
 ⟨(some 16), (some (15, true)), .faddr 1 (.tmp 2)⟩,
 ⟨(some 17), (some (15, true)), .load false 1 (.tmp 16)⟩,
 ⟨(some 18), (some (15, true)), .mov (.tmp 1)⟩,
 ⟨(some 19), (some (15, true)), .bin .leq (.tmp 17) (.tmp 18)⟩,
 ⟨(some 20), none, .pick (.tmp 15) (.tmp 19) (.lit (.bool false))⟩,
 ⟨(some 4), none, .mov (.tmp 20)⟩])
 (.ret))
theorem k79 : FnC Tryd.prog 79 21 [] [] [.tmp 4] c79 2 := ⟨Tryd.f79, _, Tryd.func79, rfl, by decide, rfl, by decide, by kernel_rfl, by kernel_rfl⟩
/-- (*dipworks/boat.water).follow -/
def c80 : AC :=
 .seq (.reg [⟨(some 2), none, .box (.tmp 0)⟩,
 ⟨(some 3), none, .box (.tmp 1)⟩,
 ⟨(some 4), none, .alloc [(.int .u64 0), (.int .u64 0), (.int .u64 0), (.int .u64 0), (.int .u64 0), (.int .u64 0), (.int .u64 0), (.int .u64 0), (.int .u64 0), (.int .u64 0), (.int .u64 0), (.int .u64 0), (.int .u64 0)]⟩])
 (.seq (.seq (.draw (.step ⟨(some 18), none, .load false 1 (.tmp 2)⟩ (
 .step ⟨(some 19), none, .nilck (.tmp 18)⟩ (
 .step ⟨(some 20), none, .faddr 8 (.tmp 19)⟩ (
 .step ⟨(some 21), none, .load false 1 (.tmp 20)⟩ (
 .step ⟨(some 22), none, .load true 4 (.tmp 3)⟩ (
 .step ⟨(some 23), none, .look (some [(some .i64), (some .i64), (some .i64), (some .i64)], none) (.agg #[(.int .u64 0), (.int .u64 0), (.int .u64 0), (.int .u64 0), (.int .u64 0), (.int .u64 0), (.int .u64 0), (.int .u64 0), (.int .u64 0), (.int .u64 0), (.int .u64 0), (.int .u64 0), (.int .u64 0)]) true (.tmp 21) (.tmp 22)⟩ (
 .step ⟨(some 17), none, .mov (.tmp 23)⟩ (
 .step ⟨(some 24), none, .ext (.tmp 17) 0⟩ (
 .step ⟨(some 25), none, .ext (.tmp 17) 1⟩ (
 .ev ⟨(some 5), none, .alloc [(.int .u64 0), (.int .u64 0), (.int .u64 0), (.int .u64 0), (.int .u64 0), (.int .u64 0), (.int .u64 0), (.int .u64 0), (.int .u64 0), (.int .u64 0), (.int .u64 0), (.int .u64 0), (.int .u64 0)]⟩ [⟨(some 23), none, .look (some [(some .i64), (some .i64), (some .i64), (some .i64)], none) (.agg #[(.int .u64 0), (.int .u64 0), (.int .u64 0), (.int .u64 0), (.int .u64 0), (.int .u64 0), (.int .u64 0), (.int .u64 0), (.int .u64 0), (.int .u64 0), (.int .u64 0), (.int .u64 0), (.int .u64 0)]) true (.tmp 21) (.tmp 22)⟩, ⟨(some 22), none, .load true 4 (.tmp 3)⟩, ⟨(some 21), none, .load false 1 (.tmp 20)⟩, ⟨(some 20), none, .faddr 8 (.tmp 19)⟩, ⟨(some 19), none, .nilck (.tmp 18)⟩, ⟨(some 18), none, .load false 1 (.tmp 2)⟩] (
 .ev ⟨none, none, .store 13 (.tmp 5) (.tmp 24)⟩ [] (
 .step ⟨(some 6), none, .mov (.tmp 25)⟩ (
 .done))
 (.stop))
 (.stop))))))))))))
 (.seq (.reg [⟨(some 26), none, .mov (.tmp 6)⟩])
 (.cond (.tmp 26) (.seq (.reg [⟨(some 27), none, .load true 13 (.tmp 5)⟩,
 ⟨none, none, .store 13 (.tmp 4) (.tmp 27)⟩])
 (.ret))
 (.skip))))
 (.seq (.reg [⟨(some 28), none, .load false 1 (.tmp 2)⟩,
 ⟨(some 29), none, .load true 4 (.tmp 3)⟩,
 ⟨(some 30), none, .call (.fn 91) [(.tmp 28), (.tmp 29)]⟩,
 ⟨(some 7), none, .alloc [(.slice none 0 0)]⟩,
 ⟨none, none, .store 1 (.tmp 7) (.tmp 30)⟩])
 (.seq (.reg [⟨(some 8), none, .alloc [(.int .u64 0), (.int .u64 0), (.int .u64 0), (.int .u64 0), (.int .u64 0), (.int .u64 0), (.int .u64 0), (.int .u64 0), (.int .u64 0), (.int .u64 0), (.int .u64 0), (.int .u64 0), (.int .u64 0)]⟩])
 (.seq (.seq (.reg [⟨(some 31), none, .mov (.lit (.int .i64 0))⟩])
 (.block 0 (.loop (.seq (.reg [⟨(some 32), none, .bin .lss (.tmp 31) (.lit (.int .i64 13))⟩])
 (.seq (.cond (.tmp 32) (.skip)
 (.exit 0))
 (.seq (.block 1 (.seq (.reg [⟨(some 33), none, .mov (.tmp 31)⟩,
 ⟨(some 9), none, .mov (.tmp 33)⟩])
 (.reg [⟨(some 34), none, .mov (.tmp 9)⟩,
 ⟨(some 35), none, .load false 1 (.tmp 2)⟩,
 ⟨(some 36), none, .nilck (.tmp 35)⟩,
 ⟨(some 37), none, .faddr 5 (.tmp 36)⟩,
 ⟨(some 38), none, .load false 1 (.tmp 37)⟩,
 ⟨(some 39), none, .iaddrA 13 1 (.tmp 8) (.tmp 34)⟩,
 ⟨none, none, .store 1 (.tmp 39) (.tmp 38)⟩])))
 (.reg [⟨(some 40), none, .bin .add (.tmp 31) (.lit (.int .i64 1))⟩,
 ⟨(some 31), none, .mov (.tmp 40)⟩])))))))
 (.seq (.reg [⟨(some 41), none, .load false 1 (.tmp 2)⟩,
 ⟨(some 42), none, .mkfn (.func 92) [(.tmp 41)] []⟩,
 ⟨(some 10), none, .alloc [.nilFunc]⟩,
 ⟨none, none, .store 1 (.tmp 10) (.tmp 42)⟩])
 (.seq (.seq (.reg [⟨(some 43), none, .bslice 1 (.bool false) 2 [(0, (.lit (.bool false))), (1, (.lit (.bool true)))]⟩,
 ⟨(some 44), none, .len (.tmp 43)⟩,
 ⟨(some 45), none, .mov (.lit (.int .i64 0))⟩])
 (.block 2 (.loop (.seq (.reg [⟨(some 46), none, .bin .lss (.tmp 45) (.tmp 44)⟩])
 (.seq (.cond (.tmp 46) (.skip)
 (.exit 2))
 (.seq (.block 3 (.seq (.reg [⟨(some 47), none, .iaddr 1 (.tmp 43) (.tmp 45)⟩,
 ⟨(some 48), none, .load false 1 (.tmp 47)⟩,
 ⟨(some 12), none, .mov (.tmp 48)⟩])
 (.seq (.reg [⟨(some 49), none, .load false 1 (.tmp 2)⟩,
 ⟨(some 50), none, .nilck (.tmp 49)⟩,
 ⟨(some 51), none, .faddr 5 (.tmp 50)⟩,
 ⟨(some 52), none, .load false 1 (.tmp 51)⟩,
 ⟨(some 13), none, .alloc [(.int .u64 0)]⟩,
 ⟨none, none, .store 1 (.tmp 13) (.tmp 52)⟩])
 (.seq (.reg [⟨(some 53), none, .load false 1 (.tmp 2)⟩,
 ⟨(some 54), none, .mov (.tmp 12)⟩,
 ⟨(some 55), none, .call (.fn 60) [(.tmp 53), (.tmp 54)]⟩])
 (.block 4 (.seq (.gcp)
 (.rangeF (.tmp 55) 56 (.reg [⟨(some 14), none, .mov (.tmp 56)⟩])
 (.block 5 (.seq (.seq (.reg [⟨(some 57), none, .load false 1 (.tmp 7)⟩,
 ⟨(some 58), none, .len (.tmp 57)⟩,
 ⟨(some 59), none, .mov (.lit (.int .i64 0))⟩])
 (.block 6 (.loop (.seq (.reg [⟨(some 60), none, .bin .lss (.tmp 59) (.tmp 58)⟩])
 (.seq (.cond (.tmp 60) (.skip)
 (.exit 6))
 (.seq (.block 7 (.seq (.reg [⟨(some 61), none, .iaddr 1 (.tmp 57) (.tmp 59)⟩,
 ⟨(some 62), none, .load false 1 (.tmp 61)⟩,
 ⟨(some 16), none, .mov (.tmp 62)⟩])
 (.draw (.step ⟨(some 63), none, .load false 1 (.tmp 13)⟩ (
 .step ⟨(some 64), none, .mov (.tmp 16)⟩ (
 .step ⟨(some 65), none, .load false 1 (.tmp 2)⟩ (
 .step ⟨(some 66), none, .mov (.tmp 14)⟩ (
 .ev ⟨(some 67), none, .inv [(131, 108), (133, 110)] (.tmp 64) [(.tmp 65), (.tmp 66)]⟩ [⟨(some 63), none, .load false 1 (.tmp 13)⟩] (
 .step ⟨(some 68), none, .bin .and (.tmp 63) (.tmp 67)⟩ (
 .ev ⟨none, none, .store 1 (.tmp 13) (.tmp 68)⟩ [] (
 .done)
 (.stop)))
 (.stop)))))))))
 (.reg [⟨(some 69), none, .bin .add (.tmp 59) (.lit (.int .i64 1))⟩,
 ⟨(some 59), none, .mov (.tmp 69)⟩])))))))
 (.seq (.draw (.step ⟨(some 70), none, .mov (.tmp 14)⟩ (
 .step ⟨(some 71), none, .iaddrA 13 1 (.tmp 8) (.tmp 70)⟩ (
 .step ⟨(some 72), none, .load false 1 (.tmp 71)⟩ (
 .step ⟨(some 73), none, .load false 1 (.tmp 13)⟩ (
 .step ⟨(some 74), none, .bin .and (.tmp 72) (.tmp 73)⟩ (
 .step ⟨(some 75), none, .iaddrA 13 1 (.tmp 8) (.tmp 70)⟩ (
 .ev ⟨none, none, .store 1 (.tmp 75) (.tmp 74)⟩ [] (
 .done)
 (.stop)))))))))
 (.seq (.reg [⟨(some 76), none, .mov (.tmp 14)⟩,
 ⟨(some 77), none, .iaddrA 13 1 (.tmp 8) (.tmp 76)⟩,
 ⟨(some 78), none, .load false 1 (.tmp 77)⟩,
 ⟨none, none, .store 1 (.tmp 13) (.tmp 78)⟩])
 (.seq (.reg [⟨(some 79), none, .faddr 3 (.tmp 3)⟩,
 ⟨(some 80), none, .load false 1 (.tmp 79)⟩,
 ⟨(some 81), none, .mov (.lit (.int .i64 0))⟩])
 (.block 8 (.loop (.seq (.reg [⟨(some 82), none, .bin .lss (.tmp 81) (.tmp 80)⟩])
 (.seq (.cond (.tmp 82) (.skip)
 (.exit 8))
 (.seq (.block 9 (.reg [⟨(some 83), none, .load false 1 (.tmp 10)⟩,
 ⟨(some 84), none, .load false 1 (.tmp 13)⟩,
 ⟨(some 85), none, .call (.tmp 83) [(.tmp 84)]⟩,
 ⟨none, none, .store 1 (.tmp 13) (.tmp 85)⟩]))
 (.reg [⟨(some 86), none, .bin .add (.tmp 81) (.lit (.int .i64 1))⟩,
 ⟨(some 81), none, .mov (.tmp 86)⟩]))))))))))))))))))
 (.reg [⟨(some 87), none, .bin .add (.tmp 45) (.lit (.int .i64 1))⟩,
 ⟨(some 45), none, .mov (.tmp 87)⟩])))))))
 (.seq (.draw (.step ⟨(some 88), none, .load false 1 (.tmp 2)⟩ (
 .step ⟨(some 89), none, .nilck (.tmp 88)⟩ (
 .step ⟨(some 90), none, .faddr 8 (.tmp 89)⟩ (
 .step ⟨(some 91), none, .load false 1 (.tmp 90)⟩ (
 .step ⟨(some 92), none, .load true 4 (.tmp 3)⟩ (
 .step ⟨(some 93), none, .load true 13 (.tmp 8)⟩ (
 .ev ⟨none, none, .mput (some [(some .i64), (some .i64), (some .i64), (some .i64)], none) (.tmp 91) (.tmp 92) (.tmp 93)⟩ [] (
 .done)
 (.stop)))))))))
 (.seq (.reg [⟨(some 94), none, .load true 13 (.tmp 8)⟩,
 ⟨none, none, .store 13 (.tmp 4) (.tmp 94)⟩])
 (.ret)))))))))
theorem k80 : FnC Tryd.prog 80 95 [4] [1000000] [.cell 4 true 13] c80 2 := ⟨Tryd.f80, _, Tryd.func80, rfl, by decide, rfl, by decide, by kernel_rfl, by kernel_rfl⟩
/-- math/bits.TrailingZeros64 -/
def c81 : AC :=
 .seq (.reg [⟨(some 2), none, .mov (.lit (.int .i64 0))⟩])
 (.seq (.seq (.reg [⟨(some 3), none, .mov (.tmp 0)⟩,
 ⟨(some 4), none, .bin .eql (.tmp 3) (.lit (.int .u64 0))⟩])
 (.cond (.tmp 4) (.seq (.reg [⟨(some 2), none, .mov (.lit (.int .i64 64))⟩])
 (.ret))
 (.skip)))
 (.seq (.reg [⟨(some 5), none, .mov (.tmp 0)⟩,
 ⟨(some 6), none, .mov (.tmp 0)⟩,
 ⟨(some 7), none, .un .neg (.tmp 6)⟩,
 ⟨(some 8), none, .bin .and (.tmp 5) (.tmp 7)⟩,
 ⟨(some 9), none, .bin .mul (.tmp 8) (.lit (.int .u64 285870213051353865))⟩,
 ⟨(some 10), none, .bin .shr (.tmp 9) (.lit (.int .u64 58))⟩,
 ⟨(some 11), none, .iaddrA 64 1 (.tr (.ptr (tabT tab64) 0)) (.tmp 10)⟩,
 ⟨(some 12), none, .load false 1 (.tmp 11)⟩,
 ⟨(some 13), none, .conv .i64 (.tmp 12)⟩,
 ⟨(some 2), none, .mov (.tmp 13)⟩])
 (.ret)))
theorem k81 : FnC Tryd.prog 81 14 [] [] [.tmp 2] c81 1 := ⟨Tryd.f81, _, Tryd.func81, rfl, by decide, rfl, by decide, by kernel_rfl, by kernel_rfl⟩
/-- math/bits.Len64 -/
def c82 : AC :=
 .seq (.reg [⟨(some 2), none, .mov (.lit (.int .i64 0))⟩])
 (.seq (.seq (.reg [⟨(some 3), none, .mov (.tmp 0)⟩,
 ⟨(some 4), none, .bin .geq (.tmp 3) (.lit (.int .u64 4294967296))⟩])
 (.cond (.tmp 4) (.seq (.reg [⟨(some 5), none, .mov (.tmp 0)⟩,
 ⟨(some 6), none, .bin .shr (.tmp 5) (.lit (.int .u64 32))⟩,
 ⟨(some 0), none, .mov (.tmp 6)⟩])
 (.reg [⟨(some 2), none, .mov (.lit (.int .i64 32))⟩]))
 (.skip)))
 (.seq (.seq (.reg [⟨(some 7), none, .mov (.tmp 0)⟩,
 ⟨(some 8), none, .bin .geq (.tmp 7) (.lit (.int .u64 65536))⟩])
 (.cond (.tmp 8) (.seq (.reg [⟨(some 9), none, .mov (.tmp 0)⟩,
 ⟨(some 10), none, .bin .shr (.tmp 9) (.lit (.int .u64 16))⟩,
 ⟨(some 0), none, .mov (.tmp 10)⟩])
 (.reg [⟨(some 11), none, .mov (.tmp 2)⟩,
 ⟨(some 12), none, .bin .add (.tmp 11) (.lit (.int .i64 16))⟩,
 ⟨(some 2), none, .mov (.tmp 12)⟩]))
 (.skip)))
 (.seq (.seq (.reg [⟨(some 13), none, .mov (.tmp 0)⟩,
 ⟨(some 14), none, .bin .geq (.tmp 13) (.lit (.int .u64 256))⟩])
 (.cond (.tmp 14) (.seq (.reg [⟨(some 15), none, .mov (.tmp 0)⟩,
 ⟨(some 16), none, .bin .shr (.tmp 15) (.lit (.int .u64 8))⟩,
 ⟨(some 0), none, .mov (.tmp 16)⟩])
 (.reg [⟨(some 17), none, .mov (.tmp 2)⟩,
 ⟨(some 18), none, .bin .add (.tmp 17) (.lit (.int .i64 8))⟩,
 ⟨(some 2), none, .mov (.tmp 18)⟩]))
 (.skip)))
 (.seq (.reg [⟨(some 19), none, .mov (.tmp 2)⟩,
 ⟨(some 20), none, .mov (.tmp 0)⟩,
 ⟨(some 21), none, .conv .u8 (.tmp 20)⟩,
 ⟨(some 22), none, .sidx [0, 1, 2, 2, 3, 3, 3, 3, 4, 4, 4, 4, 4, 4, 4, 4, 5, 5, 5, 5, 5, 5, 5, 5, 5, 5, 5, 5, 5, 5, 5, 5, 6, 6, 6, 6, 6, 6, 6, 6, 6, 6, 6, 6, 6, 6, 6, 6, 6, 6, 6, 6, 6, 6, 6, 6, 6, 6, 6, 6, 6, 6, 6, 6, 7, 7, 7, 7, 7, 7, 7, 7, 7, 7, 7, 7, 7, 7, 7, 7, 7, 7, 7, 7, 7, 7, 7, 7, 7, 7, 7, 7, 7, 7, 7, 7, 7, 7, 7, 7, 7, 7, 7, 7, 7, 7, 7, 7, 7, 7, 7, 7, 7, 7, 7, 7, 7, 7, 7, 7, 7, 7, 7, 7, 7, 7, 7, 7, 8, 8, 8, 8, 8, 8, 8, 8, 8, 8, 8, 8, 8, 8, 8, 8, 8, 8, 8, 8, 8, 8, 8, 8, 8, 8, 8, 8, 8, 8, 8, 8, 8, 8, 8, 8, 8, 8, 8, 8, 8, 8, 8, 8, 8, 8, 8, 8, 8, 8, 8, 8, 8, 8, 8, 8, 8, 8, 8, 8, 8, 8, 8, 8, 8, 8, 8, 8, 8, 8, 8, 8, 8, 8, 8, 8, 8, 8, 8, 8, 8, 8, 8, 8, 8, 8, 8, 8, 8, 8, 8, 8, 8, 8, 8, 8, 8, 8, 8, 8, 8, 8, 8, 8, 8, 8, 8, 8, 8, 8, 8, 8, 8, 8, 8, 8, 8, 8, 8, 8, 8, 8, 8, 8, 8, 8, 8, 8] (.tmp 21)⟩,
 ⟨(some 23), none, .conv .i64 (.tmp 22)⟩,
 ⟨(some 24), none, .bin .add (.tmp 19) (.tmp 23)⟩,
 ⟨(some 2), none, .mov (.tmp 24)⟩])
 (.ret)))))
theorem k82 : FnC Tryd.prog 82 25 [] [] [.tmp 2] c82 1 := ⟨Tryd.f82, _, Tryd.func82, rfl, by decide, rfl, by decide, by kernel_rfl, by kernel_rfl⟩
/-- dipworks/boat.union -/
def c83 : AC :=
 .seq (.reg [⟨(some 2), none, .mov (.lit (.int .u64 0))⟩])
 (.seq (.seq (.reg [⟨(some 5), none, .mov (.tmp 0)⟩,
 ⟨(some 6), none, .len (.tmp 5)⟩,
 ⟨(some 7), none, .mov (.lit (.int .i64 0))⟩])
 (.block 0 (.loop (.seq (.reg [⟨(some 8), none, .bin .lss (.tmp 7) (.tmp 6)⟩])
 (.seq (.cond (.tmp 8) (.skip)
 (.exit 0))
 (.seq (.block 1 (.seq (.reg [⟨(some 9), none, .iaddr 1 (.tmp 5) (.tmp 7)⟩,
 ⟨(some 10), none, .load false 1 (.tmp 9)⟩,
 ⟨(some 4), none, .mov (.tmp 10)⟩])
 (.reg [⟨(some 11), none, .mov (.tmp 2)⟩,
 ⟨(some 12), none, .mov (.tmp 4)⟩,
 ⟨(some 13), none, .bin .or (.tmp 11) (.tmp 12)⟩,
 ⟨(some 2), none, .mov (.tmp 13)⟩])))
 (.reg [⟨(some 14), none, .bin .add (.tmp 7) (.lit (.int .i64 1))⟩,
 ⟨(some 7), none, .mov (.tmp 14)⟩])))))))
 (.seq (.reg [⟨(some 15), none, .mov (.tmp 2)⟩,
 ⟨(some 2), none, .mov (.tmp 15)⟩])
 (.ret)))
theorem k83 : FnC Tryd.prog 83 16 [] [] [.tmp 2] c83 1 := ⟨Tryd.f83, _, Tryd.func83, rfl, by decide, rfl, by decide, by kernel_rfl, by kernel_rfl⟩
/-- (*dipworks/boat.water).nearest$1 -/
def c84 : AC :=
 .seq (.reg [⟨(some 4), none, .mov (.lit (.bool false))⟩])
 (.seq (.reg [⟨(some 6), none, .load false 1 (.tmp 1)⟩,
 ⟨(some 7), none, .load false 1 (.tmp 2)⟩,
 ⟨(some 8), none, .call (.fn 76) [(.tmp 6), (.tmp 7)]⟩,
 ⟨(some 5), none, .alloc [(.int .i64 0), (.int .i64 0), (.int .i64 0), (.int .i64 0)]⟩,
 ⟨none, none, .store 4 (.tmp 5) (.tmp 8)⟩])
 (.seq (.reg [⟨(some 9), none, .mov (.tmp 0)⟩,
 ⟨(some 10), none, .bin .add (.tmp 9) (.lit (.int .i64 1))⟩,
 ⟨(some 11), none, .faddr 2 (.tmp 5)⟩,
 ⟨none, none, .store 1 (.tmp 11) (.tmp 10)⟩])
 (.seq (.reg [⟨(some 12), none, .load false 1 (.tmp 1)⟩,
 ⟨(some 13), none, .load true 4 (.tmp 5)⟩,
 ⟨(some 14), none, .call (.fn 72) [(.tmp 12), (.tmp 13)]⟩,
 ⟨(some 15), none, .un .not (.tmp 14)⟩,
 ⟨(some 4), none, .mov (.tmp 15)⟩])
 (.ret))))
theorem k84 : FnC Tryd.prog 84 16 [] [] [.tmp 4] c84 3 := ⟨Tryd.f84, _, Tryd.func84, rfl, by decide, rfl, by decide, by kernel_rfl, by kernel_rfl⟩
/-- (*dipworks/boat.water).minutes$1 -/
def c87 : AC :=
 .scope (.seq (.skip)
 (.seq (.reg [⟨(some 5), none, .load false 1 (.tmp 1)⟩,
 ⟨(some 6), none, .nilck (.tmp 5)⟩,
 ⟨(some 7), none, .faddr 0 (.tmp 6)⟩,
 ⟨(some 8), none, .faddr 3 (.tmp 7)⟩,
 ⟨(some 9), none, .load false 1 (.tmp 8)⟩,
 ⟨(some 10), none, .bin .add (.tmp 9) (.lit (.int .i64 1))⟩,
 ⟨(some 11), none, .mov (.lit (.int .i64 0))⟩])
 (.block 0 (.loop (.seq (.reg [⟨(some 12), none, .bin .lss (.tmp 11) (.tmp 10)⟩])
 (.seq (.cond (.tmp 12) (.skip)
 (.exit 0))
 (.seq (.block 1 (.seq (.reg [⟨(some 13), none, .mov (.tmp 11)⟩,
 ⟨(some 4), none, .mov (.tmp 13)⟩])
 (.seq (.seq (.reg [⟨(some 14), none, .load false 1 (.tmp 2)⟩])
 (.cond (.tmp 14) (.reg [⟨(some 15), none, .load false 1 (.tmp 1)⟩,
 ⟨(some 16), none, .nilck (.tmp 15)⟩,
 ⟨(some 17), none, .faddr 0 (.tmp 16)⟩,
 ⟨(some 18), none, .faddr 3 (.tmp 17)⟩,
 ⟨(some 19), none, .load false 1 (.tmp 18)⟩,
 ⟨(some 20), none, .mov (.tmp 4)⟩,
 ⟨(some 21), none, .bin .sub (.tmp 19) (.tmp 20)⟩,
 ⟨(some 4), none, .mov (.tmp 21)⟩])
 (.skip)))
 (.seq (.reg [⟨(some 22), none, .mov (.tmp 0)⟩,
 ⟨(some 23), none, .mov (.tmp 4)⟩,
 ⟨(some 24), none, .call (.tmp 22) [(.tmp 23)]⟩,
 ⟨(some 25), none, .un .not (.tmp 24)⟩])
 (.cond (.tmp 25) (.exit 0)
 (.skip))))))
 (.reg [⟨(some 26), none, .bin .add (.tmp 11) (.lit (.int .i64 1))⟩,
 ⟨(some 11), none, .mov (.tmp 26)⟩]))))))))
theorem k87 : FnC Tryd.prog 87 27 [] [] [] c87 3 := ⟨Tryd.f87, _, Tryd.func87, rfl, by decide, rfl, by decide, by kernel_rfl, by kernel_rfl⟩
/-- math/bits.OnesCount64 -/
def c89 : AC :=
 .seq (.reg [⟨(some 2), none, .mov (.lit (.int .i64 0))⟩])
 (.seq (.reg [⟨(some 3), none, .mov (.tmp 0)⟩,
 ⟨(some 4), none, .bin .shr (.tmp 3) (.lit (.int .u64 1))⟩,
 ⟨(some 5), none, .bin .and (.tmp 4) (.lit (.int .u64 6148914691236517205))⟩,
 ⟨(some 6), none, .mov (.tmp 0)⟩,
 ⟨(some 7), none, .bin .and (.tmp 6) (.lit (.int .u64 6148914691236517205))⟩,
 ⟨(some 8), none, .bin .add (.tmp 5) (.tmp 7)⟩,
 ⟨(some 0), none, .mov (.tmp 8)⟩])
 (.seq (.reg [⟨(some 9), none, .mov (.tmp 0)⟩,
 ⟨(some 10), none, .bin .shr (.tmp 9) (.lit (.int .u64 2))⟩,
 ⟨(some 11), none, .bin .and (.tmp 10) (.lit (.int .u64 3689348814741910323))⟩,
 ⟨(some 12), none, .mov (.tmp 0)⟩,
 ⟨(some 13), none, .bin .and (.tmp 12) (.lit (.int .u64 3689348814741910323))⟩,
 ⟨(some 14), none, .bin .add (.tmp 11) (.tmp 13)⟩,
 ⟨(some 0), none, .mov (.tmp 14)⟩])
 (.seq (.reg [⟨(some 15), none, .mov (.tmp 0)⟩,
 ⟨(some 16), none, .bin .shr (.tmp 15) (.lit (.int .u64 4))⟩,
 ⟨(some 17), none, .mov (.tmp 0)⟩,
 ⟨(some 18), none, .bin .add (.tmp 16) (.tmp 17)⟩,
 ⟨(some 19), none, .bin .and (.tmp 18) (.lit (.int .u64 1085102592571150095))⟩,
 ⟨(some 0), none, .mov (.tmp 19)⟩])
 (.seq (.reg [⟨(some 20), none, .mov (.tmp 0)⟩,
 ⟨(some 21), none, .mov (.tmp 0)⟩,
 ⟨(some 22), none, .bin .shr (.tmp 21) (.lit (.int .u64 8))⟩,
 ⟨(some 23), none, .bin .add (.tmp 20) (.tmp 22)⟩,
 ⟨(some 0), none, .mov (.tmp 23)⟩])
 (.seq (.reg [⟨(some 24), none, .mov (.tmp 0)⟩,
 ⟨(some 25), none, .mov (.tmp 0)⟩,
 ⟨(some 26), none, .bin .shr (.tmp 25) (.lit (.int .u64 16))⟩,
 ⟨(some 27), none, .bin .add (.tmp 24) (.tmp 26)⟩,
 ⟨(some 0), none, .mov (.tmp 27)⟩])
 (.seq (.reg [⟨(some 28), none, .mov (.tmp 0)⟩,
 ⟨(some 29), none, .mov (.tmp 0)⟩,
 ⟨(some 30), none, .bin .shr (.tmp 29) (.lit (.int .u64 32))⟩,
 ⟨(some 31), none, .bin .add (.tmp 28) (.tmp 30)⟩,
 ⟨(some 0), none, .mov (.tmp 31)⟩])
 (.seq (.reg [⟨(some 32), none, .mov (.tmp 0)⟩,
 ⟨(some 33), none, .conv .i64 (.tmp 32)⟩,
 ⟨(some 34), none, .bin .and (.tmp 33) (.lit (.int .i64 127))⟩,
 ⟨(some 2), none, .mov (.tmp 34)⟩])
 (.ret))))))))
theorem k89 : FnC Tryd.prog 89 35 [] [] [.tmp 2] c89 1 := ⟨Tryd.f89, _, Tryd.func89, rfl, by decide, rfl, by decide, by kernel_rfl, by kernel_rfl⟩
/-- (*dipworks/boat.water).holds -/
def c91 : AC :=
 .seq (.reg [⟨(some 3), none, .box (.tmp 1)⟩,
 ⟨(some 4), none, .mov (.lit (.slice none 0 0))⟩])
 (.seq (.reg [⟨(some 8), none, .faddr 2 (.tmp 3)⟩,
 ⟨(some 9), none, .load false 1 (.tmp 8)⟩,
 ⟨(some 10), none, .build [(.int .i64 0)] [(0, 1, (.tmp 9))]⟩,
 ⟨(some 11), none, .mkif 131 (.tmp 10)⟩,
 ⟨(some 12), none, .bslice 1 .nilIface 1 [(0, (.tmp 11))]⟩,
 ⟨(some 5), none, .mov (.tmp 12)⟩])
 (.seq (.seq (.draw (.step ⟨(some 13), none, .mov (.tmp 0)⟩ (
 .step ⟨(some 14), none, .nilck (.tmp 13)⟩ (
 .step ⟨(some 15), none, .faddr 0 (.tmp 14)⟩ (
 .step ⟨(some 16), none, .faddr 4 (.tmp 15)⟩ (
 .step ⟨(some 17), none, .load false 1 (.tmp 16)⟩ (
 .step ⟨(some 18), none, .faddr 0 (.tmp 3)⟩ (
 .step ⟨(some 19), none, .load false 1 (.tmp 18)⟩ (
 .step ⟨(some 20), none, .iaddr 1 (.tmp 17) (.tmp 19)⟩ (
 .step ⟨(some 21), none, .load false 1 (.tmp 20)⟩ (
 .step ⟨(some 22), none, .len (.tmp 21)⟩ (
 .step ⟨(some 23), none, .mov (.lit (.int .i64 0))⟩ (
 .done)))))))))))))
 (.block 0 (.loop (.seq (.reg [⟨(some 24), none, .bin .lss (.tmp 23) (.tmp 22)⟩])
 (.seq (.cond (.tmp 24) (.skip)
 (.exit 0))
 (.seq (.block 1 (.seq (.reg [⟨(some 25), none, .mov (.tmp 23)⟩,
 ⟨(some 26), none, .iaddr 5 (.tmp 21) (.tmp 23)⟩,
 ⟨(some 27), none, .load true 5 (.tmp 26)⟩,
 ⟨(some 7), none, .alloc [(.int .i64 0), (.int .i64 0), (.int .i64 0), (.int .i64 0), (.int .i64 0)]⟩,
 ⟨(some 6), none, .mov (.tmp 25)⟩,
 ⟨none, none, .store 5 (.tmp 7) (.tmp 27)⟩])
 (.seq (.reg [⟨(some 28), none, .faddr 1 (.tmp 3)⟩,
 ⟨(some 29), none, .load false 1 (.tmp 28)⟩,
 ⟨(some 30), none, .mov (.tmp 6)⟩,
 ⟨(some 31), none, .bin .shr (.tmp 29) (.tmp 30)⟩,
 ⟨(some 32), none, .bin .and (.tmp 31) (.lit (.int .i64 1))⟩,
 ⟨(some 33), none, .bin .eql (.tmp 32) (.lit (.int .i64 0))⟩])
 (.cond (.tmp 33) (.reg [⟨(some 34), none, .mov (.tmp 5)⟩,
 ⟨(some 35), none, .load true 5 (.tmp 7)⟩,
 ⟨(some 36), none, .build [(.int .i64 0), (.int .i64 0), (.int .i64 0), (.int .i64 0), (.int .i64 0)] [(0, 5, (.tmp 35))]⟩,
 ⟨(some 37), none, .mkif 133 (.tmp 36)⟩,
 ⟨(some 38), none, .bslice 1 .nilIface 1 [(0, (.tmp 37))]⟩,
 ⟨(some 39), none, .app 1 16 (.tmp 34) (.tmp 38)⟩,
 ⟨(some 5), none, .mov (.tmp 39)⟩])
 (.skip)))))
 (.reg [⟨(some 40), none, .bin .add (.tmp 23) (.lit (.int .i64 1))⟩,
 ⟨(some 23), none, .mov (.tmp 40)⟩])))))))
 (.seq (.reg [⟨(some 41), none, .mov (.tmp 5)⟩,
 ⟨(some 4), none, .mov (.tmp 41)⟩])
 (.ret))))
theorem k91 : FnC Tryd.prog 91 42 [] [] [.tmp 4] c91 2 := ⟨Tryd.f91, _, Tryd.func91, rfl, by decide, rfl, by decide, by kernel_rfl, by kernel_rfl⟩
/-- (*dipworks/boat.water).step -/
def c92 : AC :=
 .seq (.reg [⟨(some 4), none, .mov (.lit (.int .u64 0))⟩])
 (.seq (.draw (.step ⟨(some 5), none, .mov (.tmp 0)⟩ (
 .step ⟨(some 6), none, .nilck (.tmp 5)⟩ (
 .step ⟨(some 7), none, .faddr 5 (.tmp 6)⟩ (
 .step ⟨(some 8), none, .load false 1 (.tmp 7)⟩ (
 .step ⟨(some 9), none, .mov (.tmp 1)⟩ (
 .step ⟨(some 10), none, .mov (.tmp 1)⟩ (
 .step ⟨(some 11), none, .mov (.tmp 0)⟩ (
 .step ⟨(some 12), none, .nilck (.tmp 11)⟩ (
 .step ⟨(some 13), none, .faddr 6 (.tmp 12)⟩ (
 .step ⟨(some 14), none, .load false 1 (.tmp 13)⟩ (
 .step ⟨(some 15), none, .bin .andNot (.tmp 10) (.tmp 14)⟩ (
 .step ⟨(some 16), none, .bin .shr (.tmp 15) (.lit (.int .u64 1))⟩ (
 .step ⟨(some 17), none, .mov (.tmp 1)⟩ (
 .step ⟨(some 18), none, .mov (.tmp 0)⟩ (
 .step ⟨(some 19), none, .nilck (.tmp 18)⟩ (
 .step ⟨(some 20), none, .faddr 7 (.tmp 19)⟩ (
 .step ⟨(some 21), none, .load false 1 (.tmp 20)⟩ (
 .step ⟨(some 22), none, .bin .andNot (.tmp 17) (.tmp 21)⟩ (
 .step ⟨(some 23), none, .bin .shl (.tmp 22) (.lit (.int .u64 1))⟩ (
 .step ⟨(some 24), none, .mov (.tmp 1)⟩ (
 .step ⟨(some 25), none, .mov (.tmp 0)⟩ (
 .step ⟨(some 26), none, .nilck (.tmp 25)⟩ (
 .step ⟨(some 27), none, .faddr 0 (.tmp 26)⟩ (
 .step ⟨(some 28), none, .faddr 0 (.tmp 27)⟩ (
 .step ⟨(some 29), none, .load false 1 (.tmp 28)⟩ (
 .step ⟨(some 30), none, .bin .shr (.tmp 24) (.tmp 29)⟩ (
 .step ⟨(some 31), none, .mov (.tmp 1)⟩ (
 .step ⟨(some 32), none, .mov (.tmp 0)⟩ (
 .step ⟨(some 33), none, .nilck (.tmp 32)⟩ (
 .step ⟨(some 34), none, .faddr 0 (.tmp 33)⟩ (
 .step ⟨(some 35), none, .faddr 0 (.tmp 34)⟩ (
 .step ⟨(some 36), none, .load false 1 (.tmp 35)⟩ (
 .step ⟨(some 37), none, .bin .shl (.tmp 31) (.tmp 36)⟩ (
 .ev ⟨(some 38), none, .bslice 1 (.int .u64 0) 5 [(0, (.tmp 9)), (1, (.tmp 16)), (2, (.tmp 23)), (3, (.tmp 30)), (4, (.tmp 37))]⟩ [⟨(some 36), none, .load false 1 (.tmp 35)⟩, ⟨(some 35), none, .faddr 0 (.tmp 34)⟩, ⟨(some 34), none, .faddr 0 (.tmp 33)⟩, ⟨(some 33), none, .nilck (.tmp 32)⟩, ⟨(some 29), none, .load false 1 (.tmp 28)⟩, ⟨(some 28), none, .faddr 0 (.tmp 27)⟩, ⟨(some 27), none, .faddr 0 (.tmp 26)⟩, ⟨(some 26), none, .nilck (.tmp 25)⟩, ⟨(some 21), none, .load false 1 (.tmp 20)⟩, ⟨(some 20), none, .faddr 7 (.tmp 19)⟩, ⟨(some 19), none, .nilck (.tmp 18)⟩, ⟨(some 14), none, .load false 1 (.tmp 13)⟩, ⟨(some 13), none, .faddr 6 (.tmp 12)⟩, ⟨(some 12), none, .nilck (.tmp 11)⟩, ⟨(some 8), none, .load false 1 (.tmp 7)⟩, ⟨(some 7), none, .faddr 5 (.tmp 6)⟩, ⟨(some 6), none, .nilck (.tmp 5)⟩] (
 .ev ⟨(some 39), none, .call (.fn 83) [(.tmp 38)]⟩ [⟨(some 36), none, .load false 1 (.tmp 35)⟩, ⟨(some 35), none, .faddr 0 (.tmp 34)⟩, ⟨(some 34), none, .faddr 0 (.tmp 33)⟩, ⟨(some 33), none, .nilck (.tmp 32)⟩, ⟨(some 29), none, .load false 1 (.tmp 28)⟩, ⟨(some 28), none, .faddr 0 (.tmp 27)⟩, ⟨(some 27), none, .faddr 0 (.tmp 26)⟩, ⟨(some 26), none, .nilck (.tmp 25)⟩, ⟨(some 21), none, .load false 1 (.tmp 20)⟩, ⟨(some 20), none, .faddr 7 (.tmp 19)⟩, ⟨(some 19), none, .nilck (.tmp 18)⟩, ⟨(some 14), none, .load false 1 (.tmp 13)⟩, ⟨(some 13), none, .faddr 6 (.tmp 12)⟩, ⟨(some 12), none, .nilck (.tmp 11)⟩, ⟨(some 8), none, .load false 1 (.tmp 7)⟩, ⟨(some 7), none, .faddr 5 (.tmp 6)⟩, ⟨(some 6), none, .nilck (.tmp 5)⟩] (
 .step ⟨(some 40), none, .bin .and (.tmp 8) (.tmp 39)⟩ (
 .step ⟨(some 4), none, .mov (.tmp 40)⟩ (
 .done)))
 (.stop))
 (.stop))))))))))))))))))))))))))))))))))))
 (.ret))
theorem k92 : FnC Tryd.prog 92 41 [] [] [.tmp 4] c92 2 := ⟨Tryd.f92, _, Tryd.func92, rfl, by decide, rfl, by decide, by kernel_rfl, by kernel_rfl⟩
/-- (dipworks/boat.rows).at -/
def c108 : AC :=
 .seq (.reg [⟨(some 3), none, .box (.tmp 0)⟩,
 ⟨(some 6), none, .mov (.lit (.int .u64 0))⟩])
 (.seq (.reg [⟨(some 7), none, .mov (.tmp 1)⟩,
 ⟨(some 8), none, .faddr 0 (.tmp 3)⟩,
 ⟨(some 9), none, .load false 1 (.tmp 8)⟩,
 ⟨(some 10), none, .call (.fn 109) [(.tmp 7), (.tmp 9)]⟩,
 ⟨(some 6), none, .mov (.tmp 10)⟩])
 (.ret))
theorem k108 : FnC Tryd.prog 108 11 [] [] [.tmp 6] c108 3 := ⟨Tryd.f108, _, Tryd.func108, rfl, by decide, rfl, by decide, by kernel_rfl, by kernel_rfl⟩
/-- (*dipworks/boat.water).row -/
def c109 : AC :=
 .seq (.reg [⟨(some 4), none, .mov (.lit (.int .u64 0))⟩])
 (.seq (.draw (.step ⟨(some 5), none, .mov (.tmp 0)⟩ (
 .step ⟨(some 6), none, .nilck (.tmp 5)⟩ (
 .step ⟨(some 7), none, .faddr 5 (.tmp 6)⟩ (
 .step ⟨(some 8), none, .load false 1 (.tmp 7)⟩ (
 .step ⟨(some 9), none, .mov (.tmp 1)⟩ (
 .step ⟨(some 10), none, .mov (.tmp 0)⟩ (
 .step ⟨(some 11), none, .nilck (.tmp 10)⟩ (
 .step ⟨(some 12), none, .faddr 0 (.tmp 11)⟩ (
 .step ⟨(some 13), none, .faddr 0 (.tmp 12)⟩ (
 .step ⟨(some 14), none, .load false 1 (.tmp 13)⟩ (
 .step ⟨(some 15), none, .bin .mul (.tmp 9) (.tmp 14)⟩ (
 .step ⟨(some 16), none, .bin .shr (.tmp 8) (.tmp 15)⟩ (
 .step ⟨(some 17), none, .mov (.tmp 1)⟩ (
 .step ⟨(some 18), none, .mov (.tmp 0)⟩ (
 .step ⟨(some 19), none, .nilck (.tmp 18)⟩ (
 .step ⟨(some 20), none, .faddr 0 (.tmp 19)⟩ (
 .step ⟨(some 21), none, .faddr 0 (.tmp 20)⟩ (
 .step ⟨(some 22), none, .load false 1 (.tmp 21)⟩ (
 .step ⟨(some 23), none, .bin .mul (.tmp 17) (.tmp 22)⟩ (
 .step ⟨(some 24), none, .bin .shl (.tmp 16) (.tmp 23)⟩ (
 .step ⟨(some 4), none, .mov (.tmp 24)⟩ (
 .done)))))))))))))))))))))))
 (.ret))
theorem k109 : FnC Tryd.prog 109 25 [] [] [.tmp 4] c109 2 := ⟨Tryd.f109, _, Tryd.func109, rfl, by decide, rfl, by decide, by kernel_rfl, by kernel_rfl⟩
/-- (dipworks/boat.sighting).at -/
def c110 : AC :=
 .seq (.reg [⟨(some 3), none, .box (.tmp 0)⟩,
 ⟨(some 6), none, .mov (.lit (.int .u64 0))⟩])
 (.seq (.seq (.reg [⟨(some 9), none, .mov (.tmp 2)⟩,
 ⟨(some 10), none, .faddr 0 (.tmp 3)⟩,
 ⟨(some 11), none, .faddr 0 (.tmp 10)⟩,
 ⟨(some 12), none, .load false 1 (.tmp 11)⟩,
 ⟨(some 13), none, .bin .neq (.tmp 9) (.tmp 12)⟩])
 (.cond (.tmp 13) (.seq (.reg [⟨(some 14), none, .mov (.tmp 1)⟩,
 ⟨(some 15), none, .nilck (.tmp 14)⟩,
 ⟨(some 16), none, .faddr 5 (.tmp 15)⟩,
 ⟨(some 17), none, .load false 1 (.tmp 16)⟩,
 ⟨(some 6), none, .mov (.tmp 17)⟩])
 (.ret))
 (.skip)))
 (.seq (.seq (.reg [⟨(some 18), none, .faddr 0 (.tmp 3)⟩,
 ⟨(some 19), none, .faddr 3 (.tmp 18)⟩,
 ⟨(some 20), none, .faddr 0 (.tmp 19)⟩,
 ⟨(some 21), none, .load false 1 (.tmp 20)⟩,
 ⟨(some 7), none, .mov (.tmp 21)⟩])
 (.block 0 (.loop (.seq (.seq (.reg [⟨(some 22), none, .mov (.tmp 7)⟩,
 ⟨(some 23), none, .faddr 0 (.tmp 3)⟩,
 ⟨(some 24), none, .faddr 3 (.tmp 23)⟩,
 ⟨(some 25), none, .faddr 1 (.tmp 24)⟩,
 ⟨(some 26), none, .load false 1 (.tmp 25)⟩,
 ⟨(some 27), none, .bin .leq (.tmp 22) (.tmp 26)⟩])
 (.cond (.tmp 27) (.skip)
 (.exit 0)))
 (.seq (.block 1 (.seq (.reg [⟨(some 30), none, .faddr 0 (.tmp 3)⟩,
 ⟨(some 31), none, .faddr 1 (.tmp 30)⟩,
 ⟨(some 32), none, .faddr 0 (.tmp 31)⟩,
 ⟨(some 33), none, .load false 1 (.tmp 32)⟩,
 ⟨(some 8), none, .mov (.tmp 33)⟩])
 (.block 2 (.loop (.seq (.seq (.reg [⟨(some 34), none, .mov (.tmp 8)⟩,
 ⟨(some 35), none, .faddr 0 (.tmp 3)⟩,
 ⟨(some 36), none, .faddr 1 (.tmp 35)⟩,
 ⟨(some 37), none, .faddr 1 (.tmp 36)⟩,
 ⟨(some 38), none, .load false 1 (.tmp 37)⟩,
 ⟨(some 39), none, .bin .leq (.tmp 34) (.tmp 38)⟩])
 (.cond (.tmp 39) (.skip)
 (.exit 2)))
 (.seq (.block 3 (.reg [⟨(some 42), none, .mov (.tmp 6)⟩,
 ⟨(some 43), none, .mov (.tmp 7)⟩,
 ⟨(some 44), none, .mov (.tmp 1)⟩,
 ⟨(some 45), none, .nilck (.tmp 44)⟩,
 ⟨(some 46), none, .faddr 0 (.tmp 45)⟩,
 ⟨(some 47), none, .faddr 0 (.tmp 46)⟩,
 ⟨(some 48), none, .load false 1 (.tmp 47)⟩,
 ⟨(some 49), none, .bin .mul (.tmp 43) (.tmp 48)⟩,
 ⟨(some 50), none, .mov (.tmp 8)⟩,
 ⟨(some 51), none, .bin .add (.tmp 49) (.tmp 50)⟩,
 ⟨(some 52), none, .bin .shl (.lit (.int .u64 1)) (.tmp 51)⟩,
 ⟨(some 53), none, .bin .or (.tmp 42) (.tmp 52)⟩,
 ⟨(some 6), none, .mov (.tmp 53)⟩]))
 (.reg [⟨(some 40), none, .mov (.tmp 8)⟩,
 ⟨(some 41), none, .bin .add (.tmp 40) (.lit (.int .i64 1))⟩,
 ⟨(some 8), none, .mov (.tmp 41)⟩])))))))
 (.reg [⟨(some 28), none, .mov (.tmp 7)⟩,
 ⟨(some 29), none, .bin .add (.tmp 28) (.lit (.int .i64 1))⟩,
 ⟨(some 7), none, .mov (.tmp 29)⟩]))))))
 (.seq (.reg [⟨(some 54), none, .mov (.tmp 6)⟩,
 ⟨(some 6), none, .mov (.tmp 54)⟩])
 (.ret))))
theorem k110 : FnC Tryd.prog 110 55 [] [] [.tmp 6] c110 3 := ⟨Tryd.f110, _, Tryd.func110, rfl, by decide, rfl, by decide, by kernel_rfl, by kernel_rfl⟩
end Go.Proofs.YtafcdpmcmmfbhaaDoor

/- Boats as data; small functions of package boat. -/
namespace Go.Proofs.YtafcdpmcmmfbhaaDoor
open Go Go.Ab

structure Si where
  minute : Int
  c1 : Int
  c2 : Int
  r1 : Int
  r2 : Int
structure Bo where
  wide : Int
  deep : Int
  speed : Int
  last : Int
  seen : List (List Si)

abbrev Sp := Int × Int
def tSp (x : Sp) : T := .agg [vi x.1, vi x.2]
def tSi (s : Si) : T := .agg [vi s.minute, vi s.c1, vi s.c2, vi s.r1, vi s.r2]
def tSis (l : List Si) : T := .slice 5 (l.map tSi)
def bo5 (b : Bo) : List T := [vi b.wide, vi b.deep, vi b.speed, vi b.last, .slice 1 (b.seen.map tSis)]

def wI (n lo hi : Int) : Bool := decide (lo ≤ n ∧ n ≤ hi)
theorem wI_eq (n lo hi : Int) : wI n lo hi = (decide (lo ≤ n) && decide (n ≤ hi)) := by unfold wI; rw [Bool.eq_iff_iff]; simp
theorem wI_iff {n lo hi : Int} : wI n lo hi = true ↔ lo ≤ n ∧ n ≤ hi := by unfold wI; simp
def spB (lo hi high : Int) : Bool := decide (0 ≤ lo) && decide (lo ≤ hi) && decide (hi ≤ high)
theorem spB_iff {lo hi high : Int} : spB lo hi high = true ↔ 0 ≤ lo ∧ lo ≤ hi ∧ hi ≤ high := by simp [spB, and_assoc]
def Si.okB (b : Bo) (m : Int) (s : Si) : Bool := wI s.minute m b.last && spB s.c1 s.c2 (b.wide - 1) && spB s.r1 s.r2 (b.deep - 1)
def sawB (b : Bo) : Int → List Si → Bool
  | _, [] => true
  | m, s :: l => s.okB b m && sawB b s.minute l
def Bo.headB (b : Bo) : Bool := wI b.wide 1 8 && wI b.deep 1 6 && wI b.speed 0 3 && wI b.last 0 12 && decide (b.seen.length ≤ 4)
def Bo.ok (b : Bo) : Bool := b.headB && b.seen.all fun l => decide (l.length ≤ 5) && sawB b 0 l

/-- A sighting that is valid, but for its place in its row. -/
structure Si.OK (b : Bo) (s : Si) : Prop where
  min : 0 ≤ s.minute ∧ s.minute ≤ b.last
  col : 0 ≤ s.c1 ∧ s.c1 ≤ s.c2 ∧ s.c2 ≤ b.wide - 1
  row : 0 ≤ s.r1 ∧ s.r1 ≤ s.r2 ∧ s.r2 ≤ b.deep - 1
structure Bo.OK (b : Bo) : Prop where
  wide : 1 ≤ b.wide ∧ b.wide ≤ 8
  deep : 1 ≤ b.deep ∧ b.deep ≤ 6
  speed : 0 ≤ b.speed ∧ b.speed ≤ 3
  last : 0 ≤ b.last ∧ b.last ≤ 12
  num : b.seen.length ≤ 4
  lens : ∀ l ∈ b.seen, l.length ≤ 5
  saw : ∀ l ∈ b.seen, sawB b 0 l = true
theorem Bo.ok_iff (b : Bo) : b.ok = true ↔ b.OK := by
  unfold Bo.ok Bo.headB
  simp only [Bool.and_eq_true, decide_eq_true_eq, List.all_eq_true, wI_iff]
  constructor
  · rintro ⟨⟨⟨⟨⟨h1, h2⟩, h3⟩, h4⟩, h5⟩, h6⟩
    exact ⟨h1, h2, h3, h4, h5, fun l hl => (h6 l hl).1, fun l hl => (h6 l hl).2⟩
  · rintro ⟨h1, h2, h3, h4, h5, h6, h7⟩
    exact ⟨⟨⟨⟨⟨h1, h2⟩, h3⟩, h4⟩, h5⟩, fun l hl => ⟨h6 l hl, h7 l hl⟩⟩
theorem okB_iff {b : Bo} {m : Int} {s : Si} : s.okB b m = true ↔ (m ≤ s.minute ∧ s.minute ≤ b.last) ∧ (0 ≤ s.c1 ∧ s.c1 ≤ s.c2 ∧ s.c2 ≤ b.wide - 1) ∧ (0 ≤ s.r1 ∧ s.r1 ≤ s.r2 ∧ s.r2 ≤ b.deep - 1) := by
  unfold Si.okB
  rw [Bool.and_eq_true, Bool.and_eq_true, wI_iff, spB_iff, spB_iff, and_assoc]
theorem saw_ok {b : Bo} : ∀ {l : List Si} {m : Int}, 0 ≤ m → sawB b m l = true → ∀ s ∈ l, s.OK b ∧ m ≤ s.minute
  | [], _, _, _, _, hs => by simp at hs
  | x :: l, m, hm, h, s, hs => by
    unfold sawB at h
    rw [Bool.and_eq_true, okB_iff] at h
    rcases List.mem_cons.1 hs with rfl | hs
    · exact ⟨⟨⟨by omega, h.1.1.2⟩, h.1.2.1, h.1.2.2⟩, h.1.1.1⟩
    · obtain ⟨h1, h2⟩ := saw_ok (by omega) h.2 s hs
      exact ⟨h1, by omega⟩
theorem Bo.OK.si {b : Bo} (h : b.OK) {l : List Si} (hl : l ∈ b.seen) {s : Si} (hs : s ∈ l) : s.OK b := (saw_ok (Int.le_refl _) (h.saw l hl) s hs).1

theorem within_ok (n lo hi : Int) : ACall Tryd.prog 58 [.t (vi n), .t (vi lo), .t (vi hi)] [] (ret (vb (wI n lo hi))) := by
  refine ACall.walk k58 ?_
  unfold c58
  rw [wI_eq]
  simp only [go_sem, Nat.reduceEqDiff, Nat.reduceAdd]
  cases hA : decide (lo ≤ n)
  · simp only [go_sem, Nat.reduceEqDiff, undef]
    exact finL_ret [] ⟨rfl, rfl, rfl, rfl, _, rfl, res_mk rfl⟩
  · simp only [go_sem, Nat.reduceEqDiff]
    exact finL_ret [] ⟨rfl, rfl, rfl, rfl, _, rfl, res_mk rfl⟩

def rfs (e : Int) : T := .iface 108 (vi e)
abbrev askO (is : Bool) (e : Int) : Out := if is then .ret (.tup []) else .pan (rfs e)
theorem ask_ok (is : Bool) (e : Int) : ACall Tryd.prog 73 [.t (vb is), .t (vi e)] [] (res (askO is e)) := by
  refine ACall.walk k73 ?_
  unfold c73
  cases is
  all_goals simp only [go_sem, Nat.reduceEqDiff, Bool.not_true, Bool.not_false]
  · exact finL_pan [] ⟨rfl, rfl, rfl, rfl, res_mk rfl⟩
  · exact finL_ret [] ⟨rfl, rfl, rfl, rfl, _, rfl, res_mk (by simp [E.gc])⟩
theorem answer_pan {σ : List AO} {id : Nat} {x : E} {e : Int} (h : σ[id]? = some (.cells [x])) : ADef Tryd.prog 48 [.ptr id 0] σ (some (rfs e)) fun σ' => σ' = σ.set id (.cells [.t (vi e)]) := by
  refine ADef.walk a48 ?_
  unfold c48
  simp only [pxT, rfs, go_sem, Nat.reduceEqDiff, Bool.not_true, h]
theorem answer_none {σ : List AO} {a : E} : ADef Tryd.prog 48 [a] σ none fun σ' => σ' = σ := by
  refine ADef.walk a48 ?_
  unfold c48
  simp only [pxT, go_sem, Nat.reduceEqDiff, Bool.not_true]

theorem isSpan_ok (x : Sp) (high : Int) : ACall Tryd.prog 79 [.t (tSp x), .t (vi high)] [] (ret (vb (spB x.1 x.2 high))) := by
  refine ACall.walk k79 ?_
  obtain ⟨lo, hi⟩ := x
  unfold c79 tSp spB
  simp only [go_sem, Nat.reduceEqDiff, Nat.reduceAdd, Nat.reduceLeDiff]
  cases h1 : decide (0 ≤ lo)
  · simp only [go_sem, Nat.reduceEqDiff, undef, undef]
    exact finL_ret [] ⟨rfl, rfl, rfl, rfl, _, rfl, res_mk rfl⟩
  simp only [go_sem, Nat.reduceEqDiff, Nat.reduceAdd, Nat.reduceLeDiff, beq_self_eq_true]
  cases h2 : decide (lo ≤ hi)
  · simp only [go_sem, Nat.reduceEqDiff, undef, undef]
    exact finL_ret [] ⟨rfl, rfl, rfl, rfl, _, rfl, res_mk rfl⟩
  simp only [go_sem, Nat.reduceEqDiff, Nat.reduceAdd, beq_self_eq_true]
  exact finL_ret [] ⟨rfl, rfl, rfl, rfl, _, rfl, res_mk rfl⟩

/-- All is of a length that there can be. -/
abbrev Lens (b : Bo) : Prop := b.seen.length < 9223372036854775808 ∧ ∀ l ∈ b.seen, l.length < 9223372036854775808
def Bo.isBoat (b : Bo) (n : Int) : Bool := wI n 0 (b.seen.length - 1)
def Bo.isMinute (b : Bo) (n : Int) : Bool := wI n 0 b.last
theorem isBoat_iff {b : Bo} {n : Int} : b.isBoat n = true ↔ 0 ≤ n ∧ n < b.seen.length := by unfold Bo.isBoat wI; simp; omega
theorem isMinute_iff {b : Bo} {n : Int} : b.isMinute n = true ↔ 0 ≤ n ∧ n ≤ b.last := by unfold Bo.isMinute wI; simp
theorem isBoat_ok (b : Bo) (hl : Lens b) (n : Int) : ACall Tryd.prog 50 [.t (.agg (bo5 b)), .t (vi n)] [] (ret (vb (b.isBoat n))) := by
  refine ACall.walk k50 ?_
  unfold c50 bo5
  have := hl.1
  have w1 : IntKind.i64.wrap ((b.seen.length : Int) - 1) = b.seen.length - 1 := wrap_id (by omega) (by omega)
  simp only [go_sem, Nat.reduceEqDiff, Nat.reduceAdd, List.length_map, w1]
  refine ACallL.quiet1 (within_ok _ _ _) rfl rfl rfl ?_
  simp only [go_sem, Nat.reduceEqDiff]
  exact finL_ret [] ⟨rfl, rfl, rfl, rfl, _, rfl, res_mk rfl⟩
theorem isMinute_ok (b : Bo) (n : Int) : ACall Tryd.prog 51 [.t (.agg (bo5 b)), .t (vi n)] [] (ret (vb (b.isMinute n))) := by
  refine ACall.walk k51 ?_
  unfold c51 bo5
  simp only [go_sem, Nat.reduceEqDiff, Nat.reduceAdd, Nat.reduceLeDiff]
  refine ACallL.quiet1 (within_ok _ _ _) rfl rfl rfl ?_
  simp only [go_sem, Nat.reduceEqDiff]
  exact finL_ret [] ⟨rfl, rfl, rfl, rfl, _, rfl, res_mk rfl⟩

/-! ### Places, as sets -/
abbrev vu (n : Int) : T := .lit (.int .u64 n)
theorem u64_nat {a : Nat} (h : a < 18446744073709551616) : IntKind.u64.wrap (a : Int) = a := by
  simp only [IntKind.wrap, IntKind.signed, IntKind.bits]
  exact Int.emod_eq_of_lt (by omega) (by omega)
theorem ubits_and {a b : Nat} (ha : a < 18446744073709551616) (hb : b < 18446744073709551616) : bits .and .u64 a b = ((a &&& b : Nat) : Int) := by
  have h1 : (BitVec.ofInt IntKind.u64.bits (a : Int) &&& BitVec.ofInt IntKind.u64.bits (b : Int)).toNat = a &&& b := by
    rw [BitVec.toNat_and, BitVec.ofInt_natCast, BitVec.ofInt_natCast, BitVec.toNat_ofNat, BitVec.toNat_ofNat]
    simp only [IntKind.bits]
    rw [Nat.mod_eq_of_lt (by omega), Nat.mod_eq_of_lt (by omega)]
  unfold bits
  simp only [h1]
  exact u64_nat (Nat.lt_of_le_of_lt Nat.and_le_left ha)
theorem ubits_or {a b : Nat} (ha : a < 18446744073709551616) (hb : b < 18446744073709551616) : bits .or .u64 a b = ((a ||| b : Nat) : Int) := by
  have h1 : (BitVec.ofInt IntKind.u64.bits (a : Int) ||| BitVec.ofInt IntKind.u64.bits (b : Int)).toNat = a ||| b := by
    rw [BitVec.toNat_or, BitVec.ofInt_natCast, BitVec.ofInt_natCast, BitVec.toNat_ofNat, BitVec.toNat_ofNat]
    simp only [IntKind.bits]
    rw [Nat.mod_eq_of_lt (by omega), Nat.mod_eq_of_lt (by omega)]
  unfold bits
  simp only [h1]
  exact u64_nat (Nat.or_lt_two_pow (n := 64) (by omega) (by omega))
theorem ubits_andNot {a b : Nat} (ha : a < 18446744073709551616) (hb : b < 18446744073709551616) : bits .andNot .u64 a b = ((ndiff a b : Nat) : Int) := by
  have h1 : (BitVec.ofInt IntKind.u64.bits (a : Int) &&& ~~~ BitVec.ofInt IntKind.u64.bits (b : Int)).toNat = ndiff a b := by
    apply Nat.eq_of_testBit_eq
    intro i
    rw [ndiff_bit, BitVec.testBit_toNat, BitVec.getLsbD_and, BitVec.getLsbD_not, BitVec.ofInt_natCast, BitVec.ofInt_natCast, BitVec.getLsbD_ofNat, BitVec.getLsbD_ofNat]
    simp only [IntKind.bits]
    by_cases hi : i < 64
    · simp [hi]
    · have : a.testBit i = false := Nat.testBit_lt_two_pow (Nat.lt_of_lt_of_le (show a < 2 ^ 64 by omega) (Nat.pow_le_pow_right (by omega) (by omega)))
      simp [hi, this]
  unfold bits
  simp only [h1]
  exact u64_nat (Nat.lt_of_le_of_lt (ndiff_le a b) ha)
theorem ushl {a i : Nat} (hi : i ≤ 64) (h : a <<< i < 18446744073709551616) : IntKind.u64.wrap ((a : Int) * 2 ^ (min i 64)) = ((a <<< i : Nat) : Int) := by
  rw [Nat.min_eq_left hi, ← u64_nat h]
  congr 1
  rw [Nat.shiftLeft_eq]
  norm_cast
theorem ushl_one {i : Nat} (h : i < 64) : IntKind.u64.wrap (1 * 2 ^ (min i 64)) = ((2 ^ i : Nat) : Int) := by
  have hp : 2 ^ i < 2 ^ 64 := Nat.pow_lt_pow_right (by decide) h
  have := ushl (a := 1) (i := i) (by omega) (by rw [Nat.shiftLeft_eq, Nat.one_mul]; omega)
  rw [Nat.shiftLeft_eq, Nat.one_mul] at this
  exact this
theorem ubit_eq {a i : Nat} (ha : a < 9223372036854775808) : (bits .and .u64 ((a : Int).fdiv (2 ^ (min i 64))) 1 == 1) = a.testBit i := by
  rw [shr_nat ha, show (1 : Int) = ((1 : Nat) : Int) from rfl, ubits_and (Nat.lt_of_le_of_lt (by rw [Nat.shiftRight_eq_div_pow]; exact Nat.div_le_self _ _) (show a < 18446744073709551616 by omega)) (by omega), Nat.testBit_eq_decide_div_mod_eq, Nat.shiftRight_eq_div_pow]
  have : a / 2 ^ i &&& 1 = a / 2 ^ i % 2 := Nat.and_one_is_mod _
  rw [this]
  have h2 := Nat.mod_two_eq_zero_or_one (a / 2 ^ i)
  rcases h2 with h | h <;> rw [h] <;> rfl
theorem dec7 {p : Nat → Prop} [DecidablePred p] {n : Nat} (h : ((List.range n).all fun n => decide (p n)) = true) (k : Nat) (hk : k < n) : p k := by
  have := List.all_eq_true.mp h k (List.mem_range.mpr hk)
  simpa using this

/-! ### Sets joined; numbers up to one -/
def orL (l : List Nat) : Nat := l.foldl (· ||| ·) 0
theorem orL_snoc (l : List Nat) (x : Nat) : orL (l ++ [x]) = orL l ||| x := by unfold orL; rw [List.foldl_append]; rfl
theorem orL_bit (l : List Nat) (i : Nat) : (orL l).testBit i = l.any (·.testBit i) := by
  have : ∀ (l : List Nat) (x : Nat), (l.foldl (· ||| ·) x).testBit i = (x.testBit i || l.any (·.testBit i)) := fun l => by
    induction l with
    | nil => intro x; simp
    | cons y l ih => intro x; rw [List.foldl_cons, ih, Nat.testBit_or, List.any_cons, Bool.or_assoc]
  unfold orL
  rw [this, Nat.zero_testBit, Bool.false_or]
theorem orL_lt {l : List Nat} {n : Nat} (h : ∀ x ∈ l, x < 2 ^ n) : orL l < 2 ^ n := by
  have key : ∀ (l : List Nat) (x : Nat), x < 2 ^ n → (∀ y ∈ l, y < 2 ^ n) → l.foldl (· ||| ·) x < 2 ^ n := fun l => by
    induction l with
    | nil => intro x hx _; exact hx
    | cons y l ih => intro x hx hl; rw [List.foldl_cons]; exact ih _ (Nat.or_lt_two_pow hx (hl y (by simp))) fun z hz => hl z (by simp [hz])
  exact key l 0 (Nat.two_pow_pos n) h
theorem union_ok (l : List Nat) (h : ∀ x ∈ l, x < 4611686018427387904) (hl : l.length < 100) : ACall Tryd.prog 83 [.t (.slice 1 (l.map fun z : Nat => vu z))] [] (ret (vu (orL l : Nat))) := by
  refine ACall.walk k83 ?_
  unfold c83
  simp only [go_sem, Nat.reduceEqDiff, List.length_map]
  refine awpL_for (i := 7) (L := 6) l.length (fun j s => s = { env := [(7, .t (vi j)), (6, .t (vi l.length)), (5, .t (.slice 1 (l.map fun z : Nat => vu z))), (2, .t (vu (orL (l.take j) : Nat)))], σ := [] }) ?_ ⟨_, Sub.gc [] [7, 6, 5, 2] rfl rfl, rfl⟩ ?_ ?_
  · rintro k s rfl; exact ⟨rfl, rfl⟩
  · rintro j s hj rfl
    have hwj : IntKind.i64.wrap ((j : Int) + 1) = ((j + 1 : Nat) : Int) := by rw [wrap_id (by omega) (by omega)]; omega
    have hx : l[j]? = some l[j] := List.getElem?_eq_getElem hj
    have h1 := h _ (List.getElem_mem hj)
    have h2 : orL (l.take j) < 2 ^ 62 := orL_lt fun x hx => h x (List.mem_of_mem_take hx)
    have ht : orL (l.take (j + 1)) = orL (l.take j) ||| l[j] := by rw [List.take_succ_eq_append_getElem hj, orL_snoc]
    have o1 := ubits_or (a := orL (l.take j)) (b := l[j]) (by omega) (by omega)
    rw [← ht] at o1
    generalize l[j] = x at *
    have hjj : (j : Int) < l.length := by omega
    simp only [go_sem, Nat.reduceEqDiff, List.getElem?_map, hx, Option.map_some, hwj, o1]
    exact ⟨_, Sub.gc [] [7, 6, 5, 2] rfl rfl, rfl⟩
  · rintro s rfl
    simp only [go_sem, Nat.reduceEqDiff, List.take_length]
    exact finL_ret [] ⟨rfl, rfl, rfl, rfl, _, rfl, res_mk rfl⟩
theorem upTo_ok (n : Nat) (hn : n < 100) : ACall Tryd.prog 70 [.t (vi n)] [] (ret (.slice 1 ((List.range (n + 1)).map fun z : Nat => vi z))) := by
  refine ACall.walk k70 ?_
  have w1 : IntKind.i64.wrap ((n : Int) + 1) = ((n + 1 : Nat) : Int) := by rw [wrap_id (by omega) (by omega)]; omega
  unfold c70
  simp only [go_sem, Nat.reduceEqDiff, w1]
  refine awpL_for (i := 6) (L := 5) (n + 1) (fun j s => s = { env := [(6, .t (vi j)), (5, .t (vi (n + 1 : Nat))), (2, .loc 0 j)], σ := [.row 1 (((List.range j).map fun z : Nat => vi z).map .t)] }) ?_ ⟨_, (Sub.ghost 2 1 (by decide) rfl).trans (Sub.gc [0] [6, 5, 2] rfl rfl), rfl⟩ ?_ ?_
  · rintro k s rfl; exact ⟨rfl, rfl⟩
  · rintro j s hj rfl
    have hwj : IntKind.i64.wrap ((j : Int) + 1) = ((j + 1 : Nat) : Int) := by rw [wrap_id (by omega) (by omega)]; omega
    simp only [go_sem, Nat.reduceEqDiff, Nat.reduceLT, List.length_map, List.length_range, hwj]
    refine ⟨⟨by unfold maxLen; omega, by omega⟩, _, Sub.gc [0] [6, 5, 2] rfl rfl, ?_⟩
    rw [List.map_append, List.map_append]
    exact St.gc_mk rfl (by
      show [AO.row 1 ((List.map E.t _ ++ List.map E.t [_]).map (E.gc _ _ _))] = _
      rw [List.map_append, gc_row, gc_row]
      rfl) rfl rfl
  · rintro s rfl
    simp only [go_sem, Nat.reduceEqDiff]
    refine finL_ret [] ⟨rfl, rfl, rfl, rfl, _, rfl, ⟨?_, rfl⟩⟩
    show Out.ret (E.gc [] _ 12 (.loc 0 (n + 1))) = _
    rw [gc_loc (n := 10) (xs := (List.range n ++ [n]).map fun z : Nat => vi z) rfl rfl (by simp), List.range_succ]
theorem has_ok (p i : Nat) (hp : p < 9223372036854775808) : ACall Tryd.prog 64 [.t (vu p), .t (vi i)] [] (ret (vb (p.testBit i))) := by
  refine ACall.walk k64 ?_
  unfold c64
  have h0 : ((i : Int) < 0) = False := by simp
  simp only [go_sem, Nat.reduceEqDiff, h0, ubit_eq hp]
  exact finL_ret [] ⟨rfl, rfl, rfl, rfl, _, rfl, res_mk rfl⟩
end Go.Proofs.YtafcdpmcmmfbhaaDoor

/- Package math/bits, at sets of places: the lowest bit, the length, how many are set. -/
namespace Go.Proofs.YtafcdpmcmmfbhaaDoor
open Go Go.Ab

abbrev B48 : Nat := 281474976710656

/-! ### How many bits are set -/
theorem and_byte {b m X M : Nat} (hb : b < 256) (hm : m < 256) : (b + 256 * X) &&& (m + 256 * M) = (b &&& m) + 256 * (X &&& M) := by
  apply Nat.eq_of_testBit_eq
  intro i
  have hbm : b &&& m < 2 ^ 8 := Nat.lt_of_le_of_lt Nat.and_le_left hb
  rw [Nat.testBit_and, Nat.add_comm b, Nat.add_comm m, Nat.add_comm (b &&& m), show 256 = 2 ^ 8 from rfl, Nat.testBit_two_pow_mul_add _ hb, Nat.testBit_two_pow_mul_add _ hm, Nat.testBit_two_pow_mul_add _ hbm]
  split
  · rw [Nat.testBit_and]
  · rw [Nat.testBit_and]
theorem shr_byte {b m X M s : Nat} (hb : b < 256) (hs : s ≤ 8) (hm : m < 2 ^ (8 - s)) : ((b + 256 * X) / 2 ^ s) &&& (m + 256 * M) = ((b / 2 ^ s) &&& m) + 256 * ((X / 2 ^ s) &&& M) := by
  have hm8 : m < 2 ^ 8 := Nat.lt_of_lt_of_le hm (Nat.pow_le_pow_right (by decide) (by omega))
  apply Nat.eq_of_testBit_eq
  intro i
  have hbm : (b / 2 ^ s) &&& m < 2 ^ 8 := Nat.lt_of_le_of_lt Nat.and_le_right hm8
  rw [Nat.testBit_and, Nat.testBit_div_two_pow, Nat.add_comm b, Nat.add_comm m, Nat.add_comm ((b / 2 ^ s) &&& m), show 256 = 2 ^ 8 from rfl, Nat.testBit_two_pow_mul_add _ hb, Nat.testBit_two_pow_mul_add _ hm8, Nat.testBit_two_pow_mul_add _ hbm]
  by_cases c : i < 8
  · rw [if_pos c, if_pos c, Nat.testBit_and, Nat.testBit_div_two_pow]
    by_cases c2 : i + s < 8
    · rw [if_pos c2]
    · have : m.testBit i = false := Nat.testBit_lt_two_pow (Nat.lt_of_lt_of_le hm (Nat.pow_le_pow_right (by decide) (by omega)))
      rw [this, Bool.and_false, Bool.and_false]
  · rw [if_neg c, if_neg c, if_neg (by omega), Nat.testBit_and, Nat.testBit_div_two_pow]
    congr 2
    omega
/-- A number of six bytes. -/
def val6 (a b c d e f : Nat) : Nat := a + 256 * (b + 256 * (c + 256 * (d + 256 * (e + 256 * (f + 256 * 0)))))
theorem val6_of {p : Nat} (hp : p < B48) : p = val6 (p % 256) (p / 256 % 256) (p / 65536 % 256) (p / 16777216 % 256) (p / 4294967296 % 256) (p / 1099511627776 % 256) := by
  have hp : p < 281474976710656 := hp
  unfold val6
  omega
def g1 (n : Nat) : Nat := (n / 2 &&& 85) + (n &&& 85)
def g2 (n : Nat) : Nat := (n / 4 &&& 51) + (n &&& 51)
def g3 (n : Nat) : Nat := (n / 16 + n) % 16
theorem g_ok : ∀ n : Nat, n < 256 → g1 n < 256 ∧ g2 (g1 n) ≤ 68 ∧ g2 (g1 n) % 16 ≤ 4 ∧ g3 (g2 (g1 n)) = size n ∧ size n ≤ 8 := dec7 (by decide +kernel)
def rep (c : Nat) : Nat → Nat
  | 0 => 0
  | k + 1 => c + 256 * rep c k
theorem f1_byte {b X k : Nat} (hb : b < 256) : ((b + 256 * X) / 2 &&& rep 85 (k + 1)) + ((b + 256 * X) &&& rep 85 (k + 1)) = g1 b + 256 * ((X / 2 &&& rep 85 k) + (X &&& rep 85 k)) := by
  have h1 := shr_byte (X := X) (M := rep 85 k) (s := 1) hb (by decide) (show 85 < 2 ^ (8 - 1) by decide)
  have h2 := and_byte (X := X) (M := rep 85 k) hb (show 85 < 256 by decide)
  rw [Nat.pow_one] at h1
  unfold g1
  rw [show rep 85 (k + 1) = 85 + 256 * rep 85 k from rfl, h1, h2]
  omega
theorem f2_byte {b X k : Nat} (hb : b < 256) : ((b + 256 * X) / 4 &&& rep 51 (k + 1)) + ((b + 256 * X) &&& rep 51 (k + 1)) = g2 b + 256 * ((X / 4 &&& rep 51 k) + (X &&& rep 51 k)) := by
  have h1 := shr_byte (X := X) (M := rep 51 k) (s := 2) hb (by decide) (show 51 < 2 ^ (8 - 2) by decide)
  have h2 := and_byte (X := X) (M := rep 51 k) hb (show 51 < 256 by decide)
  rw [show 2 ^ 2 = 4 from rfl] at h1
  unfold g2
  rw [show rep 51 (k + 1) = 51 + 256 * rep 51 k from rfl, h1, h2]
  omega
theorem f3_byte {b X k : Nat} (hb : b ≤ 68) (hX : X % 16 ≤ 4) : (((b + 256 * X) / 16 + (b + 256 * X)) &&& rep 15 (k + 1)) = g3 b + 256 * ((X / 16 + X) &&& rep 15 k) := by
  have h0 : (b + 256 * X) / 16 + (b + 256 * X) = (b / 16 + b + 16 * (X % 16)) + 256 * (X / 16 + X) := by omega
  have h2 := and_byte (b := b / 16 + b + 16 * (X % 16)) (X := X / 16 + X) (M := rep 15 k) (by omega) (show 15 < 256 by decide)
  unfold g3
  rw [show rep 15 (k + 1) = 15 + 256 * rep 15 k from rfl, h0, h2, show (b / 16 + b + 16 * (X % 16)) &&& 15 = (b / 16 + b + 16 * (X % 16)) % 16 from Nat.and_two_pow_sub_one_eq_mod _ 4]
  omega
theorem ones_f1 {a b c d e f : Nat} (ha : a < 256) (hb : b < 256) (hc : c < 256) (hd : d < 256) (he : e < 256) (hf : f < 256) : (val6 a b c d e f / 2 &&& rep 85 8) + (val6 a b c d e f &&& rep 85 8) = val6 (g1 a) (g1 b) (g1 c) (g1 d) (g1 e) (g1 f) := by
  unfold val6
  rw [f1_byte ha, f1_byte hb, f1_byte hc, f1_byte hd, f1_byte he, f1_byte hf]
  rfl
theorem ones_f2 {a b c d e f : Nat} (ha : a < 256) (hb : b < 256) (hc : c < 256) (hd : d < 256) (he : e < 256) (hf : f < 256) : (val6 a b c d e f / 4 &&& rep 51 8) + (val6 a b c d e f &&& rep 51 8) = val6 (g2 a) (g2 b) (g2 c) (g2 d) (g2 e) (g2 f) := by
  unfold val6
  rw [f2_byte ha, f2_byte hb, f2_byte hc, f2_byte hd, f2_byte he, f2_byte hf]
  rfl
theorem ones_f3 {a b c d e f : Nat} (ha : a ≤ 68) (hb : b ≤ 68) (hc : c ≤ 68) (hd : d ≤ 68) (he : e ≤ 68) (hf : f ≤ 68) (hb' : b % 16 ≤ 4) (hc' : c % 16 ≤ 4) (hd' : d % 16 ≤ 4) (he' : e % 16 ≤ 4) (hf' : f % 16 ≤ 4) :
    ((val6 a b c d e f / 16 + val6 a b c d e f) &&& rep 15 8) = val6 (g3 a) (g3 b) (g3 c) (g3 d) (g3 e) (g3 f) := by
  unfold val6
  rw [f3_byte ha (by omega), f3_byte hb (by omega), f3_byte hc (by omega), f3_byte hd (by omega), f3_byte he (by omega), f3_byte hf (by omega)]
  rfl
theorem popF_split : ∀ (j k b X : Nat), b < 2 ^ j → popF (j + k) (b + 2 ^ j * X) = popF j b + popF k X
  | 0, k, b, X, h => by
    have : b = 0 := by simpa using h
    subst this
    simp [popF]
  | j + 1, k, b, X, h => by
    have e1 : (b + 2 ^ (j + 1) * X) % 2 = b % 2 := by rw [Nat.pow_succ, Nat.mul_comm (2 ^ j) 2, Nat.mul_assoc]; omega
    have e2 : (b + 2 ^ (j + 1) * X) / 2 = b / 2 + 2 ^ j * X := by rw [Nat.pow_succ, Nat.mul_comm (2 ^ j) 2, Nat.mul_assoc]; omega
    rw [show j + 1 + k = (j + k) + 1 by omega]
    show (b + 2 ^ (j + 1) * X) % 2 + popF (j + k) ((b + 2 ^ (j + 1) * X) / 2) = b % 2 + popF j (b / 2) + popF k X
    rw [e1, e2, popF_split j k (b / 2) X (by rw [Nat.pow_succ] at h; omega)]
    omega
theorem popF_zero : ∀ k, popF k 0 = 0
  | 0 => rfl
  | k + 1 => by show 0 % 2 + popF k (0 / 2) = 0; rw [popF_zero k]
theorem size_byte {b : Nat} (hb : b < 256) : size b = popF 8 b := by
  have := popF_split 8 56 b 0 hb
  rw [popF_zero] at this
  exact this
theorem size_val6 {a b c d e f : Nat} (ha : a < 256) (hb : b < 256) (hc : c < 256) (hd : d < 256) (he : e < 256) (hf : f < 256) : size (val6 a b c d e f) = size a + size b + size c + size d + size e + size f := by
  rw [size_byte ha, size_byte hb, size_byte hc, size_byte hd, size_byte he, size_byte hf]
  show popF 64 (val6 a b c d e f) = _
  unfold val6
  have h1 := popF_split 8 56 a (b + 256 * (c + 256 * (d + 256 * (e + 256 * (f + 256 * 0))))) ha
  have h2 := popF_split 8 48 b (c + 256 * (d + 256 * (e + 256 * (f + 256 * 0)))) hb
  have h3 := popF_split 8 40 c (d + 256 * (e + 256 * (f + 256 * 0))) hc
  have h4 := popF_split 8 32 d (e + 256 * (f + 256 * 0)) hd
  have h5 := popF_split 8 24 e (f + 256 * 0) he
  have h6 := popF_split 8 16 f 0 hf
  rw [popF_zero] at h6
  rw [show (2 : Nat) ^ 8 = 256 from rfl] at h1 h2 h3 h4 h5 h6
  rw [h1, h2, h3, h4, h5, h6]
  omega
theorem val6_lt {a b c d e f : Nat} (ha : a < 256) (hb : b < 256) (hc : c < 256) (hd : d < 256) (he : e < 256) (hf : f < 256) : val6 a b c d e f < B48 := by
  show _ < 281474976710656
  unfold val6
  omega
theorem ones_sum {x a b c d e f : Nat} (hx : x = val6 a b c d e f) (ha : a ≤ 8) (hb : b ≤ 8) (hc : c ≤ 8) (hd : d ≤ 8) (he : e ≤ 8) (hf : f ≤ 8) :
    ((x + x / 256) + (x + x / 256) / 65536 + ((x + x / 256) + (x + x / 256) / 65536) / 4294967296) % 128 = a + b + c + d + e + f := by
  unfold val6 at hx
  have h1 : x + x / 256 = (a + b) + 256 * ((b + c) + 256 * ((c + d) + 256 * ((d + e) + 256 * ((e + f) + 256 * f)))) := by
    have : x / 256 = b + 256 * (c + 256 * (d + 256 * (e + 256 * (f + 256 * 0)))) := by
      generalize b + 256 * (c + 256 * (d + 256 * (e + 256 * (f + 256 * 0)))) = y at *
      omega
    omega
  rw [h1]
  clear h1 hx
  have h2 : (a + b) + 256 * ((b + c) + 256 * ((c + d) + 256 * ((d + e) + 256 * ((e + f) + 256 * f)))) + ((a + b) + 256 * ((b + c) + 256 * ((c + d) + 256 * ((d + e) + 256 * ((e + f) + 256 * f))))) / 65536 = (a + b + c + d) + 256 * ((b + c + d + e) + 256 * ((c + d + e + f) + 256 * ((d + e + f) + 256 * ((e + f) + 256 * f)))) := by
    have : ((a + b) + 256 * ((b + c) + 256 * ((c + d) + 256 * ((d + e) + 256 * ((e + f) + 256 * f))))) / 65536 = (c + d) + 256 * ((d + e) + 256 * ((e + f) + 256 * f)) := by
      generalize (c + d) + 256 * ((d + e) + 256 * ((e + f) + 256 * f)) = y at *
      omega
    omega
  rw [h2]
  have h3 : ((a + b + c + d) + 256 * ((b + c + d + e) + 256 * ((c + d + e + f) + 256 * ((d + e + f) + 256 * ((e + f) + 256 * f))))) / 4294967296 = (e + f) + 256 * f := by
    generalize (e + f) + 256 * f = y at *
    omega
  rw [h3]
  generalize (b + c + d + e) + 256 * ((c + d + e + f) + 256 * ((d + e + f) + 256 * ((e + f) + 256 * f))) = y at *
  omega

theorem ushr {a i : Nat} (ha : a < 9223372036854775808) : ((a : Int)).fdiv (2 ^ (min i 64)) = ((a / 2 ^ i : Nat) : Int) := by rw [shr_nat ha, Nat.shiftRight_eq_div_pow]
theorem st1 {x y : Nat} (hx : x < B48) (h : (x / 2 &&& rep 85 8) + (x &&& rep 85 8) = y) (hy : y < B48) : IntKind.u64.wrap (bits .and .u64 ((x : Int).fdiv (2 ^ (min 1 64))) 6148914691236517205 + bits .and .u64 (x : Int) 6148914691236517205) = (y : Int) := by
  have hx' : x < 281474976710656 := hx
  have hy' : y < 281474976710656 := hy
  rw [ushr (by omega), show (6148914691236517205 : Int) = ((rep 85 8 : Nat) : Int) from by decide +kernel, show 2 ^ 1 = 2 from rfl, ubits_and (by omega) (by decide +kernel), ubits_and (by omega) (by decide +kernel), ← h, ← Int.natCast_add, h]
  exact u64_nat (by omega)
theorem st2 {x y : Nat} (hx : x < B48) (h : (x / 4 &&& rep 51 8) + (x &&& rep 51 8) = y) (hy : y < B48) : IntKind.u64.wrap (bits .and .u64 ((x : Int).fdiv (2 ^ (min 2 64))) 3689348814741910323 + bits .and .u64 (x : Int) 3689348814741910323) = (y : Int) := by
  have hx' : x < 281474976710656 := hx
  have hy' : y < 281474976710656 := hy
  rw [ushr (by omega), show (3689348814741910323 : Int) = ((rep 51 8 : Nat) : Int) from by decide +kernel, show 2 ^ 2 = 4 from rfl, ubits_and (by omega) (by decide +kernel), ubits_and (by omega) (by decide +kernel), ← h, ← Int.natCast_add, h]
  exact u64_nat (by omega)
theorem st3 {x y : Nat} (hx : x < B48) (h : ((x / 16 + x) &&& rep 15 8) = y) : bits .and .u64 (IntKind.u64.wrap ((x : Int).fdiv (2 ^ (min 4 64)) + (x : Int))) 1085102592571150095 = (y : Int) := by
  have hx' : x < 281474976710656 := hx
  rw [ushr (by omega), show (1085102592571150095 : Int) = ((rep 15 8 : Nat) : Int) from by decide +kernel, show 2 ^ 4 = 16 from rfl, ← Int.natCast_add, u64_nat (by omega), ubits_and (by omega) (by decide +kernel), h]
theorem st4 {x i : Nat} (hx : x < 4611686018427387904) : IntKind.u64.wrap ((x : Int) + (x : Int).fdiv (2 ^ (min i 64))) = ((x + x / 2 ^ i : Nat) : Int) := by
  have := Nat.div_le_self x (2 ^ i)
  rw [ushr (by omega), ← Int.natCast_add, u64_nat (by omega)]
set_option maxHeartbeats 2000000 in
theorem ones_facts (p : Nat) (hp : p < B48) : ∃ x1 x2 x3 x4 x5 x6 : Nat,
    IntKind.u64.wrap (bits .and .u64 ((p : Int).fdiv (2 ^ (min 1 64))) 6148914691236517205 + bits .and .u64 (p : Int) 6148914691236517205) = (x1 : Int) ∧
    IntKind.u64.wrap (bits .and .u64 ((x1 : Int).fdiv (2 ^ (min 2 64))) 3689348814741910323 + bits .and .u64 (x1 : Int) 3689348814741910323) = (x2 : Int) ∧
    bits .and .u64 (IntKind.u64.wrap ((x2 : Int).fdiv (2 ^ (min 4 64)) + (x2 : Int))) 1085102592571150095 = (x3 : Int) ∧
    IntKind.u64.wrap ((x3 : Int) + (x3 : Int).fdiv (2 ^ (min 8 64))) = (x4 : Int) ∧
    IntKind.u64.wrap ((x4 : Int) + (x4 : Int).fdiv (2 ^ (min 16 64))) = (x5 : Int) ∧
    IntKind.u64.wrap ((x5 : Int) + (x5 : Int).fdiv (2 ^ (min 32 64))) = (x6 : Int) ∧
    IntKind.i64.wrap (x6 : Int) = (x6 : Int) ∧ bits .and .i64 (x6 : Int) 127 = ((size p : Nat) : Int) := by
  have hv := val6_of hp
  have hp' : p < 281474976710656 := hp
  have ha : p % 256 < 256 := by omega
  have hb : p / 256 % 256 < 256 := by omega
  have hc : p / 65536 % 256 < 256 := by omega
  have hd : p / 16777216 % 256 < 256 := by omega
  have he : p / 4294967296 % 256 < 256 := by omega
  have hf : p / 1099511627776 % 256 < 256 := by omega
  generalize p % 256 = a at *
  generalize p / 256 % 256 = b at *
  generalize p / 65536 % 256 = c at *
  generalize p / 16777216 % 256 = d at *
  generalize p / 4294967296 % 256 = e at *
  generalize p / 1099511627776 % 256 = f at *
  obtain ⟨a1, a2, a3, a4, a5⟩ := g_ok a ha
  obtain ⟨b1, b2, b3, b4, b5⟩ := g_ok b hb
  obtain ⟨c1, c2, c3, c4, c5⟩ := g_ok c hc
  obtain ⟨d1, d2, d3, d4, d5⟩ := g_ok d hd
  obtain ⟨e1, e2, e3, e4, e5⟩ := g_ok e he
  obtain ⟨f1, f2, f3, f4, f5⟩ := g_ok f hf
  have hs := size_val6 ha hb hc hd he hf
  rw [← hv] at hs
  have q1 := ones_f1 ha hb hc hd he hf
  rw [← hv] at q1
  have v1 := val6_lt a1 b1 c1 d1 e1 f1
  have q2 := ones_f2 a1 b1 c1 d1 e1 f1
  have v2 := val6_lt (show g2 (g1 a) < 256 by omega) (show g2 (g1 b) < 256 by omega) (show g2 (g1 c) < 256 by omega) (show g2 (g1 d) < 256 by omega) (show g2 (g1 e) < 256 by omega) (show g2 (g1 f) < 256 by omega)
  have q3 := ones_f3 a2 b2 c2 d2 e2 f2 b3 c3 d3 e3 f3
  rw [a4, b4, c4, d4, e4, f4] at q3
  have v3 := val6_lt (show size a < 256 by omega) (show size b < 256 by omega) (show size c < 256 by omega) (show size d < 256 by omega) (show size e < 256 by omega) (show size f < 256 by omega)
  have r1 := st1 hp q1 v1
  have r2 := st2 v1 q2 v2
  have r3 := st3 v2 q3
  have hsum := ones_sum (x := val6 (size a) (size b) (size c) (size d) (size e) (size f)) rfl a5 b5 c5 d5 e5 f5
  rw [← hs] at hsum
  generalize val6 (size a) (size b) (size c) (size d) (size e) (size f) = x3 at *
  generalize val6 (g2 (g1 a)) (g2 (g1 b)) (g2 (g1 c)) (g2 (g1 d)) (g2 (g1 e)) (g2 (g1 f)) = x2 at *
  generalize val6 (g1 a) (g1 b) (g1 c) (g1 d) (g1 e) (g1 f) = x1 at *
  have v3' : x3 < 281474976710656 := v3
  have r4 := st4 (x := x3) (i := 8) (by omega)
  rw [show 2 ^ 8 = 256 from rfl] at r4
  have h4 : x3 + x3 / 256 < 562949953421312 := by omega
  generalize x3 + x3 / 256 = x4 at *
  have r5 := st4 (x := x4) (i := 16) (by omega)
  rw [show 2 ^ 16 = 65536 from rfl] at r5
  have h5 : x4 + x4 / 65536 < 1125899906842624 := by omega
  generalize x4 + x4 / 65536 = x5 at *
  have r6 := st4 (x := x5) (i := 32) (by omega)
  rw [show 2 ^ 32 = 4294967296 from rfl] at r6
  have h6 : x5 + x5 / 4294967296 < 2251799813685248 := by omega
  generalize x5 + x5 / 4294967296 = x6 at *
  have r7 : IntKind.i64.wrap (x6 : Int) = x6 := wrap_id (by omega) (by omega)
  have r8 : bits .and .i64 (x6 : Int) 127 = ((size p : Nat) : Int) := by
    have hm : x6 &&& 127 = x6 % 128 := Nat.and_two_pow_sub_one_eq_mod x6 7
    rw [show (127 : Int) = ((127 : Nat) : Int) from rfl, bits_and (by omega) (by omega), hm, hsum]
  exact ⟨x1, x2, x3, x4, x5, x6, r1, r2, r3, r4, r5, r6, r7, r8⟩
theorem ones64_ok (p : Nat) (hp : p < B48) : ACall Tryd.prog 89 [.t (vu p)] [] (ret (vi (size p))) := by
  obtain ⟨x1, x2, x3, x4, x5, x6, r1, r2, r3, r4, r5, r6, r7, r8⟩ := ones_facts p hp
  refine ACall.walk k89 ?_
  unfold c89
  simp only [go_sem, Nat.reduceEqDiff, Int.reduceToNat, Int.reduceLT, r1, r2, r3, r4, r5, r6, r7, r8]
  exact finL_ret [] ⟨rfl, rfl, rfl, rfl, _, rfl, res_mk rfl⟩
theorem size_ok (p : Nat) (hp : p < B48) : ACall Tryd.prog 65 [.t (vu p)] [] (ret (vi (size p))) := by
  refine ACall.walk k65 ?_
  unfold c65
  simp only [go_sem, Nat.reduceEqDiff]
  refine ACallL.quiet1 (ones64_ok p hp) rfl rfl rfl ?_
  simp only [go_sem, Nat.reduceEqDiff]
  exact finL_ret [] ⟨rfl, rfl, rfl, rfl, _, rfl, res_mk rfl⟩
theorem ones_ok (p : Nat) (hp : p < B48) : ACall Tryd.prog 74 [.t (vu p)] [] (ret (vi (size p))) := by
  refine ACall.walk k74 ?_
  unfold c74
  simp only [go_sem, Nat.reduceEqDiff]
  refine ACallL.quiet1 (ones64_ok p hp) rfl rfl rfl ?_
  simp only [go_sem, Nat.reduceEqDiff]
  exact finL_ret [] ⟨rfl, rfl, rfl, rfl, _, rfl, res_mk rfl⟩
end Go.Proofs.YtafcdpmcmmfbhaaDoor

/- Package math/bits: the lowest bit, the highest one; the rows of places. -/
namespace Go.Proofs.YtafcdpmcmmfbhaaDoor
open Go Go.Ab

/-! ### The lowest bit -/
def c81g (m : Int) (tb : T) : AC :=
 .seq (.reg [⟨(some 2), none, .mov (.lit (.int .i64 0))⟩])
 (.seq (.seq (.reg [⟨(some 3), none, .mov (.tmp 0)⟩,
 ⟨(some 4), none, .bin .eql (.tmp 3) (.lit (.int .u64 0))⟩])
 (.cond (.tmp 4) (.seq (.reg [⟨(some 2), none, .mov (.lit (.int .i64 64))⟩])
 (.ret))
 (.skip)))
 (.seq (.reg [⟨(some 5), none, .mov (.tmp 0)⟩,
 ⟨(some 6), none, .mov (.tmp 0)⟩,
 ⟨(some 7), none, .un .neg (.tmp 6)⟩,
 ⟨(some 8), none, .bin .and (.tmp 5) (.tmp 7)⟩,
 ⟨(some 9), none, .bin .mul (.tmp 8) (.lit (.int .u64 m))⟩,
 ⟨(some 10), none, .bin .shr (.tmp 9) (.lit (.int .u64 58))⟩,
 ⟨(some 11), none, .iaddrA 64 1 (.tr (.ptr tb 0)) (.tmp 10)⟩,
 ⟨(some 12), none, .load false 1 (.tmp 11)⟩,
 ⟨(some 13), none, .conv .i64 (.tmp 12)⟩,
 ⟨(some 2), none, .mov (.tmp 13)⟩])
 (.ret)))
theorem c81_g : c81 = c81g 285870213051353865 (tabT tab64) := rfl
theorem tz_gen (m : Int) (cs : List T) (x : Int) (k j : Nat) (n2 : (x == 0) = false) (hj : j < 64) (hcs : cs[j]? = some (.lit (.int .u8 k))) (hk : k < 256)
    (d1 : (IntKind.u64.wrap (bits .and .u64 x (IntKind.u64.wrap (0 - x)) * m)).fdiv (2 ^ min 58 64) = (j : Int)) :
    @awpL { P := Tryd.prog, nb := 0, pn := [] } ⟨c81g m (.agg cs)⟩ ⟨fun e s => @finL 0 0 ⟨[.tmp 2]⟩ ⟨ret (vi k)⟩ e s⟩ { env := argEnv 0 [.t (.lit (.int .u64 x))], σ := [], df := [], k := 0 } := by
  unfold c81g
  have hw : IntKind.i64.wrap (k : Int) = k := wrap_id (by omega) (by omega)
  simp only [go_sem, Nat.reduceEqDiff, Int.reduceToNat, Int.reduceLT, n2, d1, Nat.mul_one, hcs, hw]
  refine ⟨by omega, ?_⟩
  exact finL_ret [] ⟨rfl, rfl, rfl, rfl, _, rfl, res_mk rfl⟩
def dB (k : Nat) : Nat := (2 ^ k * 285870213051353865 % 18446744073709551616) / 288230376151711744
theorem dB_ok : ∀ k : Nat, k < 48 → (IntKind.u64.wrap (((2 ^ k : Nat) : Int) * 285870213051353865)).fdiv (2 ^ min 58 64) = (dB k : Int) := dec7 (by decide +kernel)
theorem tab64_at : ∀ k : Nat, k < 48 → dB k < 64 ∧ tab64[dB k]? = some k := dec7 (by decide +kernel)
theorem low_and {p k : Nat} (hp : p < 2 ^ 64) (hk : p.testBit k = true) (hm : ∀ i < k, p.testBit i = false) : p &&& (2 ^ 64 - p) = 2 ^ k := by
  have h0 : p ≠ 0 := by rintro rfl; simp at hk
  have hmod : p % 2 ^ (k + 1) = 2 ^ k := by
    apply Nat.eq_of_testBit_eq
    intro i
    rw [Nat.testBit_mod_two_pow, Nat.testBit_two_pow]
    by_cases c : i < k + 1
    · rw [decide_eq_true c, Bool.true_and]
      by_cases e : k = i
      · subst e; simp [hk]
      · rw [hm i (by omega), decide_eq_false e]
    · rw [decide_eq_false c, decide_eq_false (by omega)]; rfl
  have hdec : p = 2 ^ (k + 1) * (p / 2 ^ (k + 1)) + 2 ^ k := by
    have := Nat.div_add_mod p (2 ^ (k + 1))
    omega
  have hpos := Nat.two_pow_pos k
  have hpred : p - 1 = 2 ^ (k + 1) * (p / 2 ^ (k + 1)) + (2 ^ k - 1) := by omega
  have hlt1 : 2 ^ k - 1 < 2 ^ (k + 1) := by rw [Nat.pow_succ]; omega
  have hlt2 : 2 ^ k < 2 ^ (k + 1) := by rw [Nat.pow_succ]; omega
  apply Nat.eq_of_testBit_eq
  intro i
  have e1 : 2 ^ 64 - p = 2 ^ 64 - ((p - 1) + 1) := by omega
  rw [Nat.testBit_and, e1, Nat.testBit_two_pow_sub_succ (by omega), Nat.testBit_two_pow]
  by_cases c : i < k
  · rw [hm i c, Bool.false_and, decide_eq_false (show ¬ k = i by omega)]
  · by_cases e : k = i
    · subst e
      have hp1 : (p - 1).testBit k = false := by
        rw [hpred, Nat.testBit_two_pow_mul_add _ hlt1, if_pos (by omega), Nat.testBit_two_pow_sub_one, decide_eq_false (by omega)]
      have hk64 : k < 64 := by
        apply Classical.byContradiction
        intro h
        rw [Nat.testBit_lt_two_pow (Nat.lt_of_lt_of_le hp (Nat.pow_le_pow_right (by decide) (by omega)))] at hk
        cases hk
      rw [hk, hp1, decide_eq_true hk64]; simp
    · have h1 : (p - 1).testBit i = p.testBit i := by
        rw [hpred, Nat.testBit_two_pow_mul_add _ hlt1, if_neg (by omega)]
        conv => rhs; rw [hdec, Nat.testBit_two_pow_mul_add _ hlt2, if_neg (by omega)]
      rw [h1, decide_eq_false e]
      cases p.testBit i <;> simp
theorem tz64_ok (p k : Nat) (hp : p < B48) (hk : p.testBit k = true) (hm : ∀ i < k, p.testBit i = false) : ACall Tryd.prog 81 [.t (vu p)] [] (ret (vi k)) := by
  have hp' : p < 281474976710656 := hp
  have hk48 : k < 48 := by
    apply Classical.byContradiction
    intro h
    rw [Nat.testBit_lt_two_pow (Nat.lt_of_lt_of_le (show p < 2 ^ 48 from hp') (Nat.pow_le_pow_right (by decide) (by omega)))] at hk
    cases hk
  have h0 : p ≠ 0 := by rintro rfl; simp at hk
  obtain ⟨h1, h2⟩ := tab64_at k hk48
  have hneg : IntKind.u64.wrap (0 - (p : Int)) = ((2 ^ 64 - p : Nat) : Int) := by
    have h : IntKind.u64.wrap (0 - (p : Int)) = (0 - (p : Int)) % 18446744073709551616 := by simp [IntKind.wrap, IntKind.signed, IntKind.bits]
    rw [h]
    omega
  have hand : bits .and .u64 (p : Int) (IntKind.u64.wrap (0 - (p : Int))) = ((2 ^ k : Nat) : Int) := by
    rw [hneg, ubits_and (by omega) (by omega), low_and (by omega) hk hm]
  refine ACall.walk k81 ?_
  rw [c81_g]
  exact tz_gen _ _ (p : Int) k (dB k) (by rw [beq_eq_false_iff_ne]; omega) h1 (by rw [List.getElem?_map, h2]; rfl) (by omega) (by rw [hand]; exact dB_ok k hk48)

/-! ### The highest bit -/
def blen (p : Nat) : Nat := if p = 0 then 0 else p.log2 + 1
theorem blen_shift {p k : Nat} (h : 2 ^ k ≤ p) : blen p = k + blen (p / 2 ^ k) := by
  have hpos := Nat.two_pow_pos k
  have hp : p ≠ 0 := by omega
  have hq : p / 2 ^ k ≠ 0 := by have := Nat.div_pos h hpos; omega
  unfold blen
  rw [if_neg hp, if_neg hq]
  have : p.log2 = k + (p / 2 ^ k).log2 := by
    rw [Nat.log2_eq_iff hp]
    have h1 := Nat.log2_self_le hq
    have h2 := Nat.lt_log2_self (n := p / 2 ^ k)
    constructor
    · rw [Nat.pow_add]
      exact Nat.le_trans (Nat.mul_le_mul_left _ h1) (Nat.mul_div_le _ _)
    · rw [Nat.add_assoc, Nat.pow_add]
      exact (Nat.div_lt_iff_lt_mul hpos).1 h2 |> fun h => by rw [Nat.mul_comm]; exact h
  omega
theorem blen_top {p : Nat} (hp : p ≠ 0) : p.testBit (blen p - 1) = true ∧ ∀ i, p.testBit i = true → i ≤ blen p - 1 := by
  unfold blen
  rw [if_neg hp, Nat.add_sub_cancel]
  refine ⟨Nat.testBit_log2 hp, fun i hi => ?_⟩
  have := Nat.ge_two_pow_of_testBit hi
  exact (Nat.le_log2 hp).2 this
def LnMid (p X N : Nat) (st : St) : Prop := ∃ x n : Nat, x < X ∧ blen p = n + blen x ∧ n ≤ N ∧ lk st.env 0 = .t (vu x) ∧ lk st.env 2 = .t (vi n) ∧ st.σ = [] ∧ st.df = [] ∧ st.k = 0
def len8L : List Nat := [0, 1, 2, 2, 3, 3, 3, 3, 4, 4, 4, 4, 4, 4, 4, 4, 5, 5, 5, 5, 5, 5, 5, 5, 5, 5, 5, 5, 5, 5, 5, 5, 6, 6, 6, 6, 6, 6, 6, 6, 6, 6, 6, 6, 6, 6, 6, 6, 6, 6, 6, 6, 6, 6, 6, 6, 6, 6, 6, 6, 6, 6, 6, 6, 7, 7, 7, 7, 7, 7, 7, 7, 7, 7, 7, 7, 7, 7, 7, 7, 7, 7, 7, 7, 7, 7, 7, 7, 7, 7, 7, 7, 7, 7, 7, 7, 7, 7, 7, 7, 7, 7, 7, 7, 7, 7, 7, 7, 7, 7, 7, 7, 7, 7, 7, 7, 7, 7, 7, 7, 7, 7, 7, 7, 7, 7, 7, 7, 8, 8, 8, 8, 8, 8, 8, 8, 8, 8, 8, 8, 8, 8, 8, 8, 8, 8, 8, 8, 8, 8, 8, 8, 8, 8, 8, 8, 8, 8, 8, 8, 8, 8, 8, 8, 8, 8, 8, 8, 8, 8, 8, 8, 8, 8, 8, 8, 8, 8, 8, 8, 8, 8, 8, 8, 8, 8, 8, 8, 8, 8, 8, 8, 8, 8, 8, 8, 8, 8, 8, 8, 8, 8, 8, 8, 8, 8, 8, 8, 8, 8, 8, 8, 8, 8, 8, 8, 8, 8, 8, 8, 8, 8, 8, 8, 8, 8, 8, 8, 8, 8, 8, 8, 8, 8, 8, 8, 8, 8, 8, 8, 8, 8, 8, 8, 8, 8, 8, 8, 8, 8, 8, 8, 8, 8, 8, 8]
theorem len8_at : ∀ x : Nat, x < 256 → len8L[x]? = some (blen x) ∧ blen x < 256 := dec7 (by decide +kernel)
set_option maxRecDepth 8000 in
theorem len64_ok (p : Nat) (hp : p < B48) : ACall Tryd.prog 82 [.t (vu p)] [] (ret (vi (blen p))) := by
  have hp' : p < 281474976710656 := hp
  refine ACall.walk k82 ?_
  unfold c82
  refine awpL_chop 2 (c1 := ?a1) (c2 := ?a2) (LnMid p 4294967296 32) ?hc1 ?_ ?_
  case hc1 => simp only [chop]; rfl
  · simp only [go_sem, Nat.reduceEqDiff]
    cases h : decide ((p : Int) ≥ 4294967296)
    · have h := of_decide_eq_false h
      simp only [go_sem]
      exact ⟨p, 0, by omega, by omega, by omega, rfl, rfl, rfl, rfl, rfl⟩
    · have h := of_decide_eq_true h
      have hs := ushr (a := p) (i := 32) (by omega)
      have hb := blen_shift (p := p) (k := 32) (by omega)
      simp only [go_sem, Nat.reduceEqDiff, Int.reduceToNat, Int.reduceLT, hs]
      exact ⟨p / 2 ^ 32, 32, by omega, hb, by omega, rfl, rfl, rfl, rfl, rfl⟩
  rintro ⟨env, σ, df, k⟩ ⟨x, n, hx, hb, hn, q0, q2, hσ, hdf, hk⟩
  simp only at q0 q2 hσ hdf hk
  subst hσ hdf hk
  refine awpL_chop 1 (c1 := ?b1) (c2 := ?b2) (LnMid p 65536 48) ?hc2 ?_ ?_
  case hc2 => simp only [chop]; rfl
  · simp only [go_sem, Nat.reduceEqDiff, q0]
    cases h : decide ((x : Int) ≥ 65536)
    · have h := of_decide_eq_false h
      simp only [go_sem]
      exact ⟨x, n, by omega, hb, by omega, q0, q2, rfl, rfl, rfl⟩
    · have h := of_decide_eq_true h
      have hs := ushr (a := x) (i := 16) (by omega)
      have hb2 := blen_shift (p := x) (k := 16) (by omega)
      have hw : IntKind.i64.wrap ((n : Int) + 16) = ((n + 16 : Nat) : Int) := by rw [wrap_id (by omega) (by omega)]; omega
      simp only [go_sem, Nat.reduceEqDiff, Int.reduceToNat, Int.reduceLT, hs, q0, q2, hw]
      exact ⟨x / 2 ^ 16, n + 16, by omega, by omega, by omega, rfl, rfl, rfl, rfl, rfl⟩
  clear q0 q2 hx hb hn
  rintro ⟨env, σ, df, k⟩ ⟨x, n, hx, hb, hn, q0, q2, hσ, hdf, hk⟩
  simp only at q0 q2 hσ hdf hk
  subst hσ hdf hk
  refine awpL_chop 1 (c1 := ?d1) (c2 := ?d2) (LnMid p 256 56) ?hc3 ?_ ?_
  case hc3 => simp only [chop]; rfl
  · simp only [go_sem, Nat.reduceEqDiff, q0]
    cases h : decide ((x : Int) ≥ 256)
    · have h := of_decide_eq_false h
      simp only [go_sem]
      exact ⟨x, n, by omega, hb, by omega, q0, q2, rfl, rfl, rfl⟩
    · have h := of_decide_eq_true h
      have hs := ushr (a := x) (i := 8) (by omega)
      have hb2 := blen_shift (p := x) (k := 8) (by omega)
      have hw : IntKind.i64.wrap ((n : Int) + 8) = ((n + 8 : Nat) : Int) := by rw [wrap_id (by omega) (by omega)]; omega
      simp only [go_sem, Nat.reduceEqDiff, Int.reduceToNat, Int.reduceLT, hs, q0, q2, hw]
      exact ⟨x / 2 ^ 8, n + 8, by omega, by omega, by omega, rfl, rfl, rfl, rfl, rfl⟩
  clear q0 q2 hx hb hn
  rintro ⟨env, σ, df, k⟩ ⟨x, n, hx, hb, hn, q0, q2, hσ, hdf, hk⟩
  simp only at q0 q2 hσ hdf hk
  subst hσ hdf hk
  obtain ⟨h8, h9⟩ := len8_at x hx
  have hw8 : IntKind.u8.wrap (x : Int) = x := by
    have h : IntKind.u8.wrap (x : Int) = (x : Int) % 256 := by simp [IntKind.wrap, IntKind.signed, IntKind.bits]
    rw [h]
    omega
  have hw9 : IntKind.i64.wrap (blen x : Int) = blen x := wrap_id (by omega) (by omega)
  have hw : IntKind.i64.wrap ((n : Int) + (blen x : Int)) = (blen p : Int) := by rw [wrap_id (by omega) (by omega)]; omega
  unfold len8L at h8
  simp only [go_sem, Nat.reduceEqDiff, q0, q2, hw8, h8, hw9, hw]
  exact finL_ret [] ⟨rfl, rfl, rfl, rfl, _, rfl, res_mk rfl⟩
end Go.Proofs.YtafcdpmcmmfbhaaDoor

/- Boats are opened. -/
namespace Go.Proofs.YtafcdpmcmmfbhaaDoor
open Go Go.Ab

def maskOf (p : Nat → Bool) : Nat → Nat
  | 0 => 0
  | k + 1 => if p k then maskOf p k ||| 2 ^ k else maskOf p k
theorem maskOf_lt (p : Nat → Bool) : ∀ k, maskOf p k < 2 ^ k
  | 0 => by simp [maskOf]
  | k + 1 => by
    have ih := maskOf_lt p k
    have h2 : 2 ^ (k + 1) = 2 ^ k + 2 ^ k := by rw [Nat.pow_succ]; omega
    simp only [maskOf]
    split
    · exact Nat.or_lt_two_pow (by omega) (by omega)
    · omega
theorem maskOf_bit (p : Nat → Bool) : ∀ k i, (maskOf p k).testBit i = (decide (i < k) && p i)
  | 0, i => by simp [maskOf]
  | k + 1, i => by
    simp only [maskOf]
    have ih := maskOf_bit p k i
    by_cases hi : i = k
    · subst hi
      cases hp : p i with
      | true => simp [ih]
      | false => simp [ih]
    · have e : decide (i < k + 1) = decide (i < k) := decide_eq_decide.2 (by omega)
      have e2 : (2 ^ k).testBit i = false := by rw [Nat.testBit_two_pow]; simp; omega
      split
      · rw [Nat.testBit_or, ih, e2, e]; simp
      · rw [ih, e]

def Bo.W (b : Bo) : Nat := b.wide.toNat
def Bo.D (b : Bo) : Nat := b.deep.toNat
def Bo.N (b : Bo) : Nat := b.W * b.D
theorem Bo.OK.W {b : Bo} (h : b.OK) : 1 ≤ b.W ∧ b.W ≤ 8 ∧ b.wide = b.W := by have := h.wide; unfold Bo.W; omega
theorem Bo.OK.D {b : Bo} (h : b.OK) : 1 ≤ b.D ∧ b.D ≤ 6 ∧ b.deep = b.D := by have := h.deep; unfold Bo.D; omega
theorem Bo.OK.N {b : Bo} (h : b.OK) : 1 ≤ b.N ∧ b.N ≤ 48 ∧ b.wide * b.deep = b.N := by
  obtain ⟨h1, h2, h3⟩ := h.W
  obtain ⟨h4, h5, h6⟩ := h.D
  refine ⟨Nat.mul_le_mul h1 h4, Nat.mul_le_mul h2 h5, ?_⟩
  rw [h3, h6]; unfold Bo.N; push_cast; rfl
def allW (_b : Bo) (j : Nat) : Nat := maskOf (fun _ => true) j
def leftW (b : Bo) (j : Nat) : Nat := maskOf (fun p => decide (p % b.W = 0)) j
def rightW (b : Bo) (j : Nat) : Nat := maskOf (fun p => decide (p % b.W = b.W - 1)) j
abbrev allM (b : Bo) : Nat := allW b b.N
abbrev leftM (b : Bo) : Nat := leftW b b.N
abbrev rightM (b : Bo) : Nat := rightW b b.N
theorem pow48 {n : Nat} (h : n ≤ 48) : 2 ^ n ≤ B48 := Nat.pow_le_pow_right (n := 2) (j := 48) (by decide) h
theorem maskOf_48 (p : Nat → Bool) {n : Nat} (h : n ≤ 48) : maskOf p n < B48 := Nat.lt_of_lt_of_le (maskOf_lt p n) (pow48 h)

abbrev shQ : Sh := (some [some .i64, some .i64, some .i64, some .i64], none)
abbrev waE (b : Bo) (m : Nat) : E := .vp [.t (vi b.wide), .t (vi b.deep), .t (vi b.speed), .t (vi b.last), .t (.slice 1 (b.seen.map tSis)), .t (vu (allM b : Nat)), .t (vu (leftM b : Nat)), .t (vu (rightM b : Nat)), .map m] 0
def openR (b : Bo) (is : Bool) : Out → List AO → Prop := fun o σ' => if b.ok then (if is then o = .ret (waE b 0) ∧ σ' = [.map shQ [] [] 0] else o = .pan (rfs 2) ∧ σ' = []) else o = .pan (rfs 1) ∧ σ' = []
theorem openR_bad {b : Bo} (is : Bool) (h : ¬ b.OK) : openR b is (.pan (rfs 1)) [] := by
  have : b.ok = false := by rw [← Bool.not_eq_true, b.ok_iff]; exact h
  simp only [openR, this, Bool.false_eq_true, if_false, and_self]
theorem openR_rng {b : Bo} (hok : b.ok = true) : openR b false (.pan (rfs 2)) [] := by
  simp only [openR, hok, if_true, Bool.false_eq_true, if_false, and_self]
theorem openR_ok {b : Bo} (hok : b.ok = true) : openR b true (.ret (waE b 0)) [.map shQ [] [] 0] := by
  simp only [openR, hok, if_true, and_self]
def OpMid (b : Bo) (is : Bool) (st : St) : Prop := lk st.env 2 = .ptr 0 0 ∧ lk st.env 1 = .t (vb is) ∧ st.σ = [.cells ((bo5 b).map .t)] ∧ st.df = [] ∧ st.k = 0
/-- Behind some sightings of a row. -/
def sawTo (b : Bo) (l : List Si) (j : Nat) (m : Int) : Prop := ∀ r, sawB b m r = true → l.drop j = r → sawB b 0 l = true

set_option maxRecDepth 8000 in
set_option maxHeartbeats 8000000 in
theorem open_ok (b : Bo) (is : Bool) (hl : Lens b) : ACall Tryd.prog 49 [.t (.agg (bo5 b)), .t (vb is)] [] (openR b is) := by
  refine ACall.walk k49 ?_
  unfold c49
  have hln := hl.1
  refine awpL_chop 2 (c1 := ?a1) (c2 := ?a2) (fun st => b.headB = true ∧ OpMid b is st) ?hc ?_ ?_
  case hc => simp only [chop]; rfl
  · unfold bo5
    have bad : b.headB = false → openR b is (.pan (rfs 1)) [] := fun h => openR_bad is fun k => by
      have := (b.ok_iff).2 k
      unfold Bo.ok at this
      rw [h] at this; cases this
    unfold Bo.headB at bad ⊢
    simp only [go_sem, Nat.reduceEqDiff, Nat.reduceAdd, Nat.reduceLeDiff]
    refine ACallL.quiet1 (within_ok _ _ _) rfl rfl rfl ?_
    cases h1 : wI b.wide 1 8
    · simp only [go_sem, Nat.reduceEqDiff, undef, undef]
      refine ACallL.quiet1 (ask_ok false 1) rfl rfl rfl ?_
      simp only [askO, go_sem]
      exact finL_pan [] ⟨rfl, rfl, rfl, rfl, bad (by rw [h1]; rfl)⟩
    simp only [go_sem, Nat.reduceEqDiff, Nat.reduceAdd, Nat.reduceLeDiff, beq_self_eq_true]
    refine ACallL.quiet1 (within_ok _ _ _) rfl rfl rfl ?_
    cases h2 : wI b.deep 1 6
    · simp only [go_sem, Nat.reduceEqDiff, undef, undef]
      refine ACallL.quiet1 (ask_ok false 1) rfl rfl rfl ?_
      simp only [askO, go_sem]
      exact finL_pan [] ⟨rfl, rfl, rfl, rfl, bad (by rw [h1, h2]; rfl)⟩
    simp only [go_sem, Nat.reduceEqDiff, Nat.reduceAdd, Nat.reduceLeDiff, beq_self_eq_true]
    refine ACallL.quiet1 (within_ok _ _ _) rfl rfl rfl ?_
    cases h3 : wI b.speed 0 3
    · simp only [go_sem, Nat.reduceEqDiff, undef, undef]
      refine ACallL.quiet1 (ask_ok false 1) rfl rfl rfl ?_
      simp only [askO, go_sem]
      exact finL_pan [] ⟨rfl, rfl, rfl, rfl, bad (by rw [h1, h2, h3]; rfl)⟩
    simp only [go_sem, Nat.reduceEqDiff, Nat.reduceAdd, Nat.reduceLeDiff, beq_self_eq_true]
    refine ACallL.quiet1 (within_ok _ _ _) rfl rfl rfl ?_
    cases h4 : wI b.last 0 12
    · simp only [go_sem, Nat.reduceEqDiff, undef, undef]
      refine ACallL.quiet1 (ask_ok false 1) rfl rfl rfl ?_
      simp only [askO, go_sem]
      exact finL_pan [] ⟨rfl, rfl, rfl, rfl, bad (by rw [h1, h2, h3, h4]; rfl)⟩
    simp only [go_sem, Nat.reduceEqDiff, Nat.reduceAdd, beq_self_eq_true, List.length_map]
    refine ACallL.quiet1 (ask_ok _ 1) rfl rfl (by simp only [askO]; split <;> rfl) ?_
    cases h5 : decide ((b.seen.length : Int) ≤ 4)
    · have h5' : decide (b.seen.length ≤ 4) = false := by have := of_decide_eq_false h5; exact decide_eq_false (by omega)
      simp only [askO, go_sem]
      exact finL_pan [] ⟨rfl, rfl, rfl, rfl, bad (by rw [h1, h2, h3, h4, h5']; rfl)⟩
    have h5' : decide (b.seen.length ≤ 4) = true := by have := of_decide_eq_true h5; exact decide_eq_true (by omega)
    simp only [askO, go_sem, Bool.and_true, Bool.true_and]
    exact ⟨of_decide_eq_true h5', rfl, rfl, rfl, rfl, rfl⟩
  rintro ⟨env, σ, df, k⟩ ⟨vh, q2, q1, hσ, hdf, hk⟩
  simp only at q2 q1 hσ hdf hk
  subst hσ hdf hk
  have vh' := vh
  unfold Bo.headB at vh'
  simp only [Bool.and_eq_true, decide_eq_true_eq, wI_iff] at vh'
  obtain ⟨⟨⟨⟨⟨w1, w2⟩, ⟨d1, d2⟩⟩, _⟩, ⟨l1, l2⟩⟩, n4⟩ := vh'
  -- the sightings
  refine awpL_chop 1 (c1 := ?b1) (c2 := ?b2) (fun st => b.ok = true ∧ OpMid b is st) ?hc2 ?_ ?_
  case hc2 => simp only [chop]; rfl
  · unfold bo5
    simp only [go_sem, Nat.reduceEqDiff, Nat.reduceAdd, q2, List.length_map]
    refine awpL_for (i := 40) (L := 39) b.seen.length (fun j st => (b.seen.take j).all (fun l => decide (l.length ≤ 5) && sawB b 0 l) = true ∧ st = { env := [(40, .t (vi j)), (39, .t (vi b.seen.length)), (38, .t (.slice 1 (b.seen.map tSis))), (2, .ptr 0 0), (1, .t (vb is))], σ := [.cells ((bo5 b).map .t)] }) ?_ ⟨_, Sub.gc [0] [40, 39, 38, 2, 1] rfl rfl, rfl, ?_⟩ ?_ ?_
    · rintro k st ⟨_, rfl⟩; exact ⟨rfl, rfl⟩
    · exact St.gc_mk (by simp only [List.map_cons, List.map_nil, lk, Nat.reduceEqDiff, reduceIte, q2, q1]; rfl) rfl rfl rfl
    · rintro j st hj ⟨hK, rfl⟩
      have hx : b.seen[j]? = some b.seen[j] := List.getElem?_eq_getElem hj
      have tx : b.seen.take (j + 1) = b.seen.take j ++ [b.seen[j]] := by rw [List.take_add_one, hx]; rfl
      have mx := List.getElem_mem hj
      have hw : IntKind.i64.wrap ((j : Int) + 1) = ((j + 1 : Nat) : Int) := by rw [wrap_id (by omega) (by omega)]; omega
      generalize b.seen[j] = l at *
      have hll := hl.2 l mx
      have bad : (decide (l.length ≤ 5) && sawB b 0 l) = false → openR b is (.pan (rfs 1)) [] := fun h => openR_bad is fun k => by
        rw [decide_eq_true (k.lens l mx), k.saw l mx] at h; cases h
      simp only [bo5, go_sem, Nat.reduceEqDiff, List.length_map, List.getElem?_map, hx, Option.map_some, tSis]
      refine ACallL.quiet1 (ask_ok _ 1) rfl rfl (by simp only [askO]; split <;> rfl) ?_
      cases h5 : decide ((l.length : Int) ≤ 5)
      · have h5' : decide (l.length ≤ 5) = false := by have := of_decide_eq_false h5; exact decide_eq_false (by omega)
        simp only [askO, go_sem]
        exact finL_pan [] ⟨rfl, rfl, rfl, rfl, bad (by rw [h5']; rfl)⟩
      have h5' : decide (l.length ≤ 5) = true := by have := of_decide_eq_true h5; exact decide_eq_true (by omega)
      rw [h5', Bool.true_and] at bad
      have hl5 := of_decide_eq_true h5'
      simp only [askO, go_sem, Nat.reduceEqDiff, List.length_map]
      refine awpL_for (i := 50) (L := 49) l.length (fun i st => ∃ m : Int, (0 ≤ m ∧ m ≤ 12) ∧ sawB b 0 l = sawB b m (l.drop i) ∧ st = { env := [(50, .t (vi i)), (49, .t (vi l.length)), (48, .t (.slice 5 (l.map tSi))), (7, .t (vi m)), (40, .t (vi j)), (39, .t (vi b.seen.length)), (38, .t (.slice 1 (b.seen.map tSis))), (2, .ptr 0 0), (1, .t (vb is))], σ := [.cells ((bo5 b).map .t)] }) ?_ ⟨_, Sub.gc [0] [50, 49, 48, 7, 40, 39, 38, 2, 1] rfl rfl, 0, by omega, rfl, rfl⟩ ?_ ?_
      · rintro k st ⟨_, _, _, rfl⟩; exact ⟨rfl, rfl⟩
      · rintro i st hi ⟨m, hm, hS, rfl⟩
        have hwi : IntKind.i64.wrap ((i : Int) + 1) = ((i + 1 : Nat) : Int) := by rw [wrap_id (by omega) (by omega)]; omega
        have hs : l[i]? = some l[i] := List.getElem?_eq_getElem hi
        have hd : l.drop i = l[i] :: l.drop (i + 1) := List.drop_eq_getElem_cons hi
        generalize l[i] = s at *
        rw [hd] at hS
        have hS2 : sawB b 0 l = (s.okB b m && sawB b s.minute (l.drop (i + 1))) := hS
        have bad2 : s.okB b m = false → openR b is (.pan (rfs 1)) [] := fun h => bad (by rw [hS2, h]; rfl)
        have wc : IntKind.i64.wrap (b.wide - 1) = b.wide - 1 := wrap_id (by omega) (by omega)
        have wr : IntKind.i64.wrap (b.deep - 1) = b.deep - 1 := wrap_id (by omega) (by omega)
        have hsp1 := isSpan_ok (s.c1, s.c2) (b.wide - 1)
        have hsp2 := isSpan_ok (s.r1, s.r2) (b.deep - 1)
        unfold Si.okB at bad2 hS2
        obtain ⟨sm, c1, c2, r1, r2⟩ := s
        simp only [tSp] at hsp1 hsp2 bad2 hS2
        simp only [bo5, go_sem, Nat.reduceEqDiff, Nat.reduceAdd, Nat.reduceLeDiff, undef, undef, List.getElem?_map, hs, Option.map_some, tSi]
        refine ACallL.quiet1 (within_ok _ _ _) rfl rfl rfl ?_
        cases h1 : wI sm m b.last
        · simp only [go_sem, Nat.reduceEqDiff, undef, undef]
          refine ACallL.quiet1 (ask_ok false 1) rfl rfl rfl ?_
          simp only [askO, go_sem]
          exact finL_pan [] ⟨rfl, rfl, rfl, rfl, bad2 (by rw [h1]; rfl)⟩
        simp only [go_sem, Nat.reduceEqDiff, Nat.reduceAdd, Nat.reduceLeDiff, beq_self_eq_true, wc]
        refine ACallL.quiet1 hsp1 rfl rfl rfl ?_
        cases h2 : spB c1 c2 (b.wide - 1)
        · simp only [go_sem, Nat.reduceEqDiff, undef, undef]
          refine ACallL.quiet1 (ask_ok false 1) rfl rfl rfl ?_
          simp only [askO, go_sem]
          exact finL_pan [] ⟨rfl, rfl, rfl, rfl, bad2 (by rw [h1, h2]; rfl)⟩
        simp only [go_sem, Nat.reduceEqDiff, Nat.reduceAdd, Nat.reduceLeDiff, beq_self_eq_true, wr]
        refine ACallL.quiet1 hsp2 rfl rfl rfl ?_
        simp only [go_sem, Nat.reduceEqDiff]
        refine ACallL.quiet1 (ask_ok _ 1) rfl rfl (by simp only [askO]; split <;> rfl) ?_
        cases h3 : spB r1 r2 (b.deep - 1)
        · simp only [askO, go_sem]
          exact finL_pan [] ⟨rfl, rfl, rfl, rfl, bad2 (by rw [h1, h2, h3]; rfl)⟩
        simp only [askO, go_sem, Nat.reduceEqDiff, Nat.reduceAdd, Nat.reduceLeDiff, hwi]
        rw [h1, h2, h3] at hS2
        exact ⟨_, Sub.gc [0] [50, 49, 48, 7, 40, 39, 38, 2, 1] rfl rfl, sm, by have := wI_iff.1 h1; omega, hS2, rfl⟩
      · rintro st ⟨m, hm, hS, rfl⟩
        rw [List.drop_length] at hS
        simp only [bo5, go_sem, Nat.reduceEqDiff, hw]
        refine ⟨_, Sub.gc [0] [40, 39, 38, 2, 1] rfl rfl, ?_, rfl⟩
        rw [tx, List.all_append, hK, Bool.true_and, List.all_cons, h5', hS]
        rfl
    · rintro st ⟨hK, rfl⟩
      rw [List.take_length] at hK
      simp only [go_sem]
      exact ⟨by unfold Bo.ok; rw [vh, hK]; rfl, rfl, rfl, rfl, rfl, rfl⟩
  clear q2 q1
  rintro ⟨env, σ, df, k⟩ ⟨hok, q2, q1, hσ, hdf, hk⟩
  simp only at q2 q1 hσ hdf hk
  subst hσ hdf hk
  have hb := (b.ok_iff).1 hok
  obtain ⟨e1, e2, e3⟩ := hb.W
  obtain ⟨e4, e5, e6⟩ := hb.N
  have wn : IntKind.i64.wrap (b.wide * b.deep) = (b.N : Int) := by rw [e6]; exact wrap_id (by omega) (by omega)
  unfold bo5
  simp only [go_sem, q1]
  refine ACallL.quiet1 (ask_ok _ 2) rfl rfl (by simp only [askO]; split <;> rfl) ?_
  cases is
  · simp only [askO, go_sem]
    exact finL_pan [] ⟨rfl, rfl, rfl, rfl, openR_rng hok⟩
  simp only [askO, go_sem, Nat.reduceEqDiff, Nat.reduceAdd, Nat.reduceLeDiff, q2, wn]
  refine awpL_for (i := 92) (L := 91) b.N (fun j st => st = { env := [(92, .t (vi j)), (91, .t (vi b.N)), (2, .ptr 0 0), (10, .ptr 2 0)], σ := [.cells ((bo5 b).map .t), .map shQ [] [] 0, .cells [.t (vi b.wide), .t (vi b.deep), .t (vi b.speed), .t (vi b.last), .t (.slice 1 (b.seen.map tSis)), .t (vu (allW b j : Nat)), .t (vu (leftW b j : Nat)), .t (vu (rightW b j : Nat)), .map 1]] }) ?_
    ⟨_, Sub.gc [0, 1, 2] [92, 91, 2, 10] rfl rfl, St.gc_mk (by simp only [List.map_cons, List.map_nil, lk, Nat.reduceEqDiff, reduceIte, q2]; rfl) rfl rfl rfl⟩ ?_ ?_
  · rintro k st rfl; exact ⟨rfl, rfl⟩
  · rintro j st hj rfl
    have hwj : IntKind.i64.wrap ((j : Int) + 1) = ((j + 1 : Nat) : Int) := by rw [wrap_id (by omega) (by omega)]; omega
    have hjn : ((j : Int) < 0) = False := by simp
    have n0 : ¬ (b.wide = 0) := by omega
    have sl := ushl_one (i := j) (by omega)
    have hp : 2 ^ j < B48 := Nat.pow_lt_pow_right (a := 2) (m := j) (n := 48) (by decide) (by omega)
    have hp' : 2 ^ j < 281474976710656 := hp
    have b1 : allW b j < 281474976710656 := maskOf_48 _ (by omega)
    have b2 : leftW b j < 281474976710656 := maskOf_48 _ (by omega)
    have b3 : rightW b j < 281474976710656 := maskOf_48 _ (by omega)
    have o1 := ubits_or (a := allW b j) (b := 2 ^ j) (by omega) (by omega)
    have o2 := ubits_or (a := leftW b j) (b := 2 ^ j) (by omega) (by omega)
    have o3 := ubits_or (a := rightW b j) (b := 2 ^ j) (by omega) (by omega)
    have t1 : (j : Int).tmod b.wide = ((j % b.W : Nat) : Int) := by rw [e3, Int.tmod_eq_emod_of_nonneg (by omega)]; rfl
    have wc : IntKind.i64.wrap (b.wide - 1) = ((b.W - 1 : Nat) : Int) := by rw [wrap_id (by omega) (by omega)]; omega
    have s1 : allW b (j + 1) = allW b j ||| 2 ^ j := rfl
    have s2 : leftW b (j + 1) = if decide (j % b.W = 0) then leftW b j ||| 2 ^ j else leftW b j := rfl
    have s3 : rightW b (j + 1) = if decide (j % b.W = b.W - 1) then rightW b j ||| 2 ^ j else rightW b j := rfl
    have c1 : (((j % b.W : Nat) : Int) == 0) = decide (j % b.W = 0) := by
      rw [Bool.eq_iff_iff, beq_iff_eq, decide_eq_true_eq]; omega
    have c2 : (((j % b.W : Nat) : Int) == ((b.W - 1 : Nat) : Int)) = decide (j % b.W = b.W - 1) := by
      rw [Bool.eq_iff_iff, beq_iff_eq, decide_eq_true_eq]; omega
    generalize allW b (j + 1) = A1 at *
    generalize leftW b (j + 1) = L1 at *
    generalize rightW b (j + 1) = R1 at *
    generalize allW b j = A0 at *
    generalize leftW b j = L0 at *
    generalize rightW b j = R0 at *
    subst s1
    generalize decide (j % b.W = 0) = d1 at *
    generalize decide (j % b.W = b.W - 1) = d2 at *
    simp only [bo5, go_sem, Nat.reduceEqDiff, Nat.reduceAdd, Nat.reduceLeDiff, undef, undef, hjn, n0, sl, o1, t1, c1]
    cases d1 <;> cases d2
    all_goals
      simp only [if_true, if_false, Bool.false_eq_true] at s2 s3
      subst s2 s3
      simp only [bo5, go_sem, Nat.reduceEqDiff, Nat.reduceAdd, Nat.reduceLeDiff, undef, undef, hwj, hjn, n0, sl, o2, o3, t1, wc, c2]
      exact ⟨_, Sub.gc [0, 1, 2] [92, 91, 2, 10] rfl rfl, rfl⟩
  · rintro st rfl
    simp only [bo5, go_sem, Nat.reduceEqDiff]
    exact finL_ret [1] ⟨rfl, rfl, rfl, rfl, _, rfl, openR_ok hok⟩
/-- Boats are opened, over whatever store. -/
theorem lendB_nil (σ l : List AO) : lendB σ [] l = σ ++ l := by simp [lendB]
theorem openL (b : Bo) (is : Bool) (hl : Lens b) {σ : List AO} {R : Lz (Out → List AO → Prop)} (hbad : b.ok = false → R.get (.pan (rfs 1)) σ) (hrng : b.ok = true → is = false → R.get (.pan (rfs 2)) σ)
    (hgood : b.ok = true → is = true → R.get (.ret (waE b σ.length)) (σ ++ [.map shQ [] [] 0])) : @ACallL Tryd.prog 49 [.t (.agg (bo5 b)), .t (vb is)] σ R := by
  refine ACall.mono (ACall.lend [] (open_ok b is hl) (by simp) (by simp) rfl (fun j o ho => by simp at ho) (args := [.t (.agg (bo5 b)), .t (vb is)]) (by simp [E.rens, E.ren])) ?_
  rintro o σ1 ⟨o0, σ0, hR, _, rfl, rfl⟩
  rw [lendB_nil]
  unfold openR at hR
  cases hok : b.ok
  · rw [hok] at hR
    obtain ⟨rfl, rfl⟩ := hR
    rw [List.map_nil, List.append_nil]
    exact hbad hok
  · rw [hok, if_pos rfl] at hR
    cases is
    · obtain ⟨rfl, rfl⟩ := hR
      rw [List.map_nil, List.append_nil]
      exact hrng hok rfl
    · rw [if_pos rfl] at hR
      obtain ⟨rfl, rfl⟩ := hR
      exact hgood hok rfl
end Go.Proofs.YtafcdpmcmmfbhaaDoor

/- Steps; rows; what a boat is held to. -/
namespace Go.Proofs.YtafcdpmcmmfbhaaDoor
open Go Go.Ab

/-- The water as it is read alone. -/
abbrev waT (b : Bo) (x : T) : T := .ptr (.agg [vi b.wide, vi b.deep, vi b.speed, vi b.last, .slice 1 (b.seen.map tSis), vu (allM b : Nat), vu (leftM b : Nat), vu (rightM b : Nat), x]) 0
def stepM (b : Bo) (p : Nat) : Nat := allM b &&& orL [p, ndiff p (leftM b) / 2, ndiff p (rightM b) <<< 1, p / 2 ^ b.W, p <<< b.W]
theorem allM_lt {b : Bo} (hb : b.OK) : allM b < B48 := maskOf_48 _ hb.N.2.1
theorem stepM_lt {b : Bo} (hb : b.OK) (p : Nat) : stepM b p < B48 := Nat.lt_of_le_of_lt Nat.and_le_left (allM_lt hb)
theorem shl_lt {p k : Nat} (hp : p < B48) (hk : k ≤ 8) : p <<< k < 72057594037927936 := by
  have hp' : p < 281474976710656 := hp
  rw [Nat.shiftLeft_eq]
  have h1 : 2 ^ k ≤ 256 := Nat.pow_le_pow_right (n := 2) (j := 8) (by decide) hk
  have : p * 2 ^ k ≤ p * 256 := Nat.mul_le_mul_left _ h1
  omega

set_option maxRecDepth 8000 in
theorem step_ok (b : Bo) (hb : b.OK) (x : T) (p : Nat) (hp : p < B48) : ACall Tryd.prog 92 [.t (waT b x), .t (vu p)] [] (ret (vu (stepM b p : Nat))) := by
  refine ACall.walk k92 ?_
  have hp' : p < 281474976710656 := hp
  have ha : allM b < 281474976710656 := allM_lt hb
  have hl : leftM b < 281474976710656 := maskOf_48 _ hb.N.2.1
  have hr : rightM b < 281474976710656 := maskOf_48 _ hb.N.2.1
  obtain ⟨w1, w2, w3⟩ := hb.W
  have hwn : (b.wide < 0) = False := by simp; omega
  have hwt : b.wide.toNat = b.W := rfl
  have x1 := ndiff_le p (leftM b)
  have x2 := ndiff_le p (rightM b)
  have a1 := ubits_andNot (a := p) (b := leftM b) (by omega) (by omega)
  have a2 := ubits_andNot (a := p) (b := rightM b) (by omega) (by omega)
  have s1 := ushr (a := ndiff p (leftM b)) (i := 1) (by omega)
  have y2 := shl_lt (p := ndiff p (rightM b)) (k := 1) (Nat.lt_of_le_of_lt x2 hp) (by omega)
  have s2 := ushl (a := ndiff p (rightM b)) (i := 1) (by omega) (by omega)
  have s3 := ushr (a := p) (i := b.W) (by omega)
  have y4 := shl_lt hp w2
  have s4 := ushl (a := p) (i := b.W) (by omega) (by omega)
  have y3 := Nat.div_le_self p (2 ^ b.W)
  have hu := union_ok [p, ndiff p (leftM b) / 2, ndiff p (rightM b) <<< 1, p / 2 ^ b.W, p <<< b.W] (by
    intro z hz
    simp only [List.mem_cons, List.mem_nil_iff, or_false] at hz
    rcases hz with rfl | rfl | rfl | rfl | rfl <;> omega) (by simp)
  have ho : orL [p, ndiff p (leftM b) / 2, ndiff p (rightM b) <<< 1, p / 2 ^ b.W, p <<< b.W] < 2 ^ 62 := orL_lt (by
    intro z hz
    simp only [List.mem_cons, List.mem_nil_iff, or_false] at hz
    rcases hz with rfl | rfl | rfl | rfl | rfl <;> omega)
  have a3 := ubits_and (a := allM b) (b := orL [p, ndiff p (leftM b) / 2, ndiff p (rightM b) <<< 1, p / 2 ^ b.W, p <<< b.W]) (by omega) (by omega)
  have hst : stepM b p = allM b &&& orL [p, ndiff p (leftM b) / 2, ndiff p (rightM b) <<< 1, p / 2 ^ b.W, p <<< b.W] := rfl
  rw [← hst] at a3
  simp only [List.map_cons, List.map_nil, Nat.pow_one] at hu s1
  generalize stepM b p = S at *
  generalize orL [p, ndiff p (leftM b) / 2, ndiff p (rightM b) <<< 1, p / 2 ^ b.W, p <<< b.W] = O at *
  generalize ndiff p (leftM b) = u1 at *
  generalize ndiff p (rightM b) = u2 at *
  generalize p <<< b.W = u4 at *
  generalize p / 2 ^ b.W = u3 at *
  generalize u2 <<< 1 = u5 at *
  unfold c92
  simp only [go_sem, Nat.reduceEqDiff, Nat.reduceAdd, Nat.reduceLT, Int.reduceToNat, Int.reduceLT, a1, a2, s1, s2, hwn, hwt, s3, s4]
  refine ACallL.quiet1 hu rfl rfl rfl ?_
  simp only [go_sem, Nat.reduceEqDiff, Nat.reduceAdd, a3]
  exact finL_ret [] ⟨rfl, rfl, rfl, rfl, _, rfl, res_mk rfl⟩

/-! ### Rows from one on -/
def rowM (b : Bo) (n : Nat) : Nat := (allM b / 2 ^ (n * b.W)) <<< (n * b.W)
theorem rowM_bit (b : Bo) (n i : Nat) : (rowM b n).testBit i = (decide (n * b.W ≤ i) && decide (i < b.N)) := by
  unfold rowM
  rw [Nat.testBit_shiftLeft, Nat.testBit_div_two_pow]
  show (decide (i ≥ n * b.W) && (maskOf _ _).testBit _) = _
  rw [maskOf_bit, Bool.and_true]
  by_cases c : n * b.W ≤ i
  · rw [show i - n * b.W + n * b.W = i by omega]
  · rw [decide_eq_false (show ¬ i ≥ n * b.W from c), Bool.false_and, Bool.false_and]
theorem rowM_lt {b : Bo} (hb : b.OK) (n : Nat) : rowM b n < B48 := by
  refine Nat.lt_of_le_of_lt ?_ (allM_lt hb)
  unfold rowM
  rw [Nat.shiftLeft_eq]
  exact Nat.div_mul_le_self _ _
theorem row_ok (b : Bo) (hb : b.OK) (x : T) (n : Nat) (hn : n ≤ 7) : ACall Tryd.prog 109 [.t (waT b x), .t (vi n)] [] (ret (vu (rowM b n : Nat))) := by
  refine ACall.walk k109 ?_
  have ha : allM b < 281474976710656 := allM_lt hb
  have hrl : rowM b n < 281474976710656 := rowM_lt hb n
  obtain ⟨w1, w2, w3⟩ := hb.W
  have hk : n * b.W ≤ 56 := Nat.mul_le_mul hn w2
  have wk : IntKind.i64.wrap ((n : Int) * b.wide) = ((n * b.W : Nat) : Int) := by
    rw [w3, ← Int.natCast_mul]; exact wrap_id (by omega) (by omega)
  have s1 := ushr (a := allM b) (i := n * b.W) (by omega)
  have s2 := ushl (a := allM b / 2 ^ (n * b.W)) (i := n * b.W) (by omega) (show rowM b n < _ by omega)
  rw [show (allM b / 2 ^ (n * b.W)) <<< (n * b.W) = rowM b n from rfl] at s2
  generalize rowM b n = R at *
  generalize n * b.W = k at *
  have hkn : ((k : Int) < 0) = False := by simp
  generalize allM b / 2 ^ k = y at *
  unfold c109
  simp only [go_sem, Nat.reduceEqDiff, Nat.reduceAdd, wk, hkn, s1, s2]
  exact finL_ret [] ⟨rfl, rfl, rfl, rfl, _, rfl, res_mk rfl⟩
def rowsT (n : Nat) : T := .agg [vi n]
theorem atRows_ok (b : Bo) (hb : b.OK) (x : T) (n : Nat) (hn : n ≤ 7) (m : Int) : ACall Tryd.prog 108 [.t (rowsT n), .t (waT b x), .t (vi m)] [] (ret (vu (rowM b n : Nat))) := by
  refine ACall.walk k108 ?_
  unfold c108 rowsT
  simp only [go_sem, Nat.reduceEqDiff, Nat.reduceAdd]
  refine ACallL.fresh1 (row_ok b hb x n hn) rfl ?_
  simp only [go_sem, Nat.reduceEqDiff]
  exact finL_ret [] ⟨rfl, rfl, rfl, rfl, _, rfl, res_mk rfl⟩

/-! ### Within a sighting -/
def inB (b : Bo) (s : Si) (p : Nat) : Bool := decide (s.r1.toNat ≤ p / b.W) && decide (p / b.W ≤ s.r2.toNat) && (decide (s.c1.toNat ≤ p % b.W) && decide (p % b.W ≤ s.c2.toNat))
def insM (b : Bo) (s : Si) (r c : Nat) : Nat := maskOf (fun p => inB b s p && (decide (p / b.W < r) || (decide (p / b.W = r) && decide (p % b.W < c)))) b.N
def rectM (b : Bo) (s : Si) : Nat := maskOf (inB b s) b.N
def atM (b : Bo) (m : Nat) (s : Si) : Nat := if s.minute = m then rectM b s else allM b
theorem atM_lt {b : Bo} (hb : b.OK) (m : Nat) (s : Si) : atM b m s < B48 := by
  unfold atM
  split
  · exact maskOf_48 _ hb.N.2.1
  · exact allM_lt hb
theorem pos_of {W r c : Nat} (hc : c < W) : (r * W + c) / W = r ∧ (r * W + c) % W = c := by
  have hW : 0 < W := by omega
  rw [Nat.mul_comm, Nat.mul_add_div hW, Nat.mul_add_mod, Nat.div_eq_of_lt hc, Nat.mod_eq_of_lt hc]
  omega
theorem pos_eq {W r c i : Nat} (hc : c < W) : r * W + c = i ↔ i / W = r ∧ i % W = c := by
  constructor
  · rintro rfl; exact pos_of hc
  · rintro ⟨rfl, rfl⟩
    rw [Nat.mul_comm]; exact Nat.div_add_mod i W
theorem pos_lt {W D r c : Nat} (hc : c < W) (hr : r < D) : r * W + c < W * D := by
  have h1 : (r + 1) * W ≤ D * W := Nat.mul_le_mul_right _ hr
  rw [Nat.add_mul, Nat.one_mul, Nat.mul_comm D] at h1
  omega
theorem insM_step {b : Bo} (hb : b.OK) {s : Si} (hs : s.OK b) {r c : Nat} (hr : s.r1.toNat ≤ r ∧ r ≤ s.r2.toNat) (hc : s.c1.toNat ≤ c ∧ c ≤ s.c2.toNat) : insM b s r (c + 1) = insM b s r c ||| 2 ^ (r * b.W + c) := by
  have hcW : c < b.W := by have := hs.col; have := hb.W; omega
  have hrD : r < b.D := by have := hs.row; have := hb.D; omega
  apply Nat.eq_of_testBit_eq
  intro i
  unfold insM
  rw [maskOf_bit, Nat.testBit_or, maskOf_bit, Nat.testBit_two_pow]
  by_cases e : r * b.W + c = i
  · obtain ⟨h1, h2⟩ := (pos_eq hcW).1 e
    have hi : i < b.N := by rw [← e]; exact pos_lt hcW hrD
    unfold inB
    rw [h1, h2, decide_eq_true hi, decide_eq_true hr.1, decide_eq_true hr.2, decide_eq_true hc.1, decide_eq_true hc.2, decide_eq_true e]
    simp
  · rw [decide_eq_false e, Bool.or_false]
    congr 2
    by_cases e1 : i / b.W = r
    · have : i % b.W ≠ c := fun h => e ((pos_eq hcW).2 ⟨e1, h⟩)
      rw [show decide (i % b.W < c + 1) = decide (i % b.W < c) from decide_eq_decide.2 (by omega)]
    · rw [decide_eq_false e1]; rfl
theorem insM_first (b : Bo) (s : Si) (r : Nat) : insM b s r s.c1.toNat = insM b s r 0 := by
  apply Nat.eq_of_testBit_eq
  intro i
  unfold insM inB
  rw [maskOf_bit, maskOf_bit]
  by_cases c : s.c1.toNat ≤ i % b.W
  · rw [decide_eq_false (show ¬ i % b.W < s.c1.toNat by omega), decide_eq_false (show ¬ i % b.W < 0 by omega)]
  · rw [decide_eq_false c]; simp
theorem insM_last (b : Bo) (s : Si) (r : Nat) : insM b s r (s.c2.toNat + 1) = insM b s (r + 1) 0 := by
  apply Nat.eq_of_testBit_eq
  intro i
  unfold insM inB
  rw [maskOf_bit, maskOf_bit]
  by_cases c : i % b.W ≤ s.c2.toNat
  · rw [decide_eq_true (show i % b.W < s.c2.toNat + 1 by omega), decide_eq_false (show ¬ i % b.W < 0 by omega), Bool.and_true, Bool.and_false, Bool.or_false]
    congr 2
    rw [Bool.eq_iff_iff, Bool.or_eq_true, decide_eq_true_eq, decide_eq_true_eq, decide_eq_true_eq]
    omega
  · rw [decide_eq_false c]; simp
theorem insM_none (b : Bo) (s : Si) : insM b s s.r1.toNat 0 = 0 := by
  apply Nat.eq_of_testBit_eq
  intro i
  unfold insM inB
  rw [maskOf_bit, Nat.zero_testBit, decide_eq_false (show ¬ i % b.W < 0 by omega)]
  by_cases c : s.r1.toNat ≤ i / b.W
  · rw [decide_eq_false (show ¬ i / b.W < s.r1.toNat by omega)]; simp
  · rw [decide_eq_false c]; simp
theorem insM_all (b : Bo) (s : Si) : insM b s (s.r2.toNat + 1) 0 = rectM b s := by
  apply Nat.eq_of_testBit_eq
  intro i
  unfold insM rectM inB
  rw [maskOf_bit, maskOf_bit, decide_eq_false (show ¬ i % b.W < 0 by omega)]
  by_cases c : i / b.W ≤ s.r2.toNat
  · rw [decide_eq_true (show i / b.W < s.r2.toNat + 1 by omega)]; simp
  · rw [decide_eq_false c]; simp
set_option maxRecDepth 8000 in
set_option maxHeartbeats 4000000 in
theorem atSi_ok (b : Bo) (hb : b.OK) (x : T) (s : Si) (hs : s.OK b) (m : Nat) : ACall Tryd.prog 110 [.t (tSi s), .t (waT b x), .t (vi m)] [] (ret (vu (atM b m s : Nat))) := by
  refine ACall.walk k110 ?_
  have ha := allM_lt hb
  obtain ⟨w1, w2, w3⟩ := hb.W
  obtain ⟨n1, n2, n3⟩ := hb.N
  obtain ⟨d1, d2, d3⟩ := hb.D
  have hcol := hs.col
  have hrow := hs.row
  have hstep := fun r c hr hc => insM_step hb hs (r := r) (c := c) hr hc
  have hf := insM_first b s
  have hla := insM_last b s
  have hno := insM_none b s
  have hal := insM_all b s
  have hlt : ∀ r c, insM b s r c < B48 := fun r c => maskOf_48 _ n2
  have hat : atM b m s = if s.minute = m then rectM b s else allM b := rfl
  generalize insM b s = I at *
  generalize rectM b s = R at *
  generalize atM b m s = Z at *
  obtain ⟨sm, c1, c2, r1, r2⟩ := s
  simp only at hcol hrow hstep hf hla hno hal hat
  obtain ⟨C1, rfl⟩ : ∃ n : Nat, c1 = n := ⟨c1.toNat, by omega⟩
  obtain ⟨C2, rfl⟩ : ∃ n : Nat, c2 = n := ⟨c2.toNat, by omega⟩
  obtain ⟨R1, rfl⟩ : ∃ n : Nat, r1 = n := ⟨r1.toNat, by omega⟩
  obtain ⟨R2, rfl⟩ : ∃ n : Nat, r2 = n := ⟨r2.toNat, by omega⟩
  simp only [Int.toNat_natCast] at hstep hf hla hno hal
  unfold c110 tSi
  simp only [go_sem, Nat.reduceEqDiff, Nat.reduceAdd, Nat.reduceLeDiff]
  cases hm : ((m : Int) != sm)
  rotate_left
  · rw [if_neg (by rw [bne_iff_ne] at hm; omega)] at hat
    subst hat
    simp only [go_sem, Nat.reduceEqDiff, Nat.reduceAdd]
    exact finL_ret [] ⟨rfl, rfl, rfl, rfl, _, rfl, res_mk rfl⟩
  rw [if_pos (by have := bne_eq_false_iff_eq.1 hm; omega)] at hat
  subst hat
  simp only [go_sem, Nat.reduceEqDiff, Nat.reduceAdd, Nat.reduceLeDiff]
  refine awpL_loopK (R2 + 1 - R1) (fun i st => st = { env := [(7, .t (vi (R1 + i : Nat))), (1, .t (waT b x)), (3, .t (.ptr (.agg [vi sm, vi C1, vi C2, vi R1, vi R2]) 0)), (6, .t (vu (I (R1 + i) 0 : Nat)))], σ := [] }) ⟨_, Sub.gc [] [7, 1, 3, 6] rfl rfl, by rw [Nat.add_zero, hno]; rfl⟩ ?_
  rintro i st hi rfl
  simp only [go_sem, Nat.reduceEqDiff, Nat.reduceAdd]
  cases g : decide (((R1 + i : Nat) : Int) ≤ (R2 : Int))
  · have hie : R1 + i = R2 + 1 := by have := of_decide_eq_false g; omega
    simp only [go_sem, Nat.reduceEqDiff]
    refine finL_ret [] ⟨rfl, rfl, rfl, rfl, _, rfl, res_mk ?_⟩
    rw [← hal, ← hie]
    rfl
  have hil : R1 + i ≤ R2 := by have := of_decide_eq_true g; omega
  have hwi : IntKind.i64.wrap (((R1 + i : Nat) : Int) + 1) = ((R1 + (i + 1) : Nat) : Int) := by rw [wrap_id (by omega) (by omega)]; omega
  have hR : R1 ≤ R1 + i := by omega
  have hlt0 := hlt (R1 + i)
  have hst0 := hstep (R1 + i)
  have hla0 := hla (R1 + i)
  rw [← hf (R1 + i)]
  rw [show R1 + i + 1 = R1 + (i + 1) from rfl] at hla0
  have hkk : i < R2 + 1 - R1 := by omega
  generalize hr : R1 + i = r at *
  simp only [go_sem, Nat.reduceEqDiff, Nat.reduceAdd]
  refine awpL_loopK (C2 + 1 - C1) (fun j st => st = { env := [(8, .t (vi (C1 + j : Nat))), (7, .t (vi r)), (1, .t (waT b x)), (3, .t (.ptr (.agg [vi sm, vi C1, vi C2, vi R1, vi R2]) 0)), (6, .t (vu (I r (C1 + j) : Nat)))], σ := [] }) ⟨_, Sub.gc [] [8, 7, 1, 3, 6] rfl rfl, rfl⟩ ?_
  rintro j st hj rfl
  simp only [go_sem, Nat.reduceEqDiff, Nat.reduceAdd]
  cases g2 : decide (((C1 + j : Nat) : Int) ≤ (C2 : Int))
  · have hje : C1 + j = C2 + 1 := by have := of_decide_eq_false g2; omega
    simp only [go_sem, Nat.reduceEqDiff, hwi]
    refine ⟨hkk, _, Sub.gc [] [7, 1, 3, 6] rfl rfl, ?_⟩
    rw [hje, hla0]
    rfl
  have hjl : C1 + j ≤ C2 := by have := of_decide_eq_true g2; omega
  have hwj : IntKind.i64.wrap (((C1 + j : Nat) : Int) + 1) = ((C1 + (j + 1) : Nat) : Int) := by rw [wrap_id (by omega) (by omega)]; omega
  have hC : C1 ≤ C1 + j := by omega
  have hst1 := hst0 (C1 + j) ⟨hR, hil⟩ ⟨hC, hjl⟩
  rw [show C1 + j + 1 = C1 + (j + 1) from rfl] at hst1
  have hlt1 : I r (C1 + j) < 281474976710656 := hlt0 (C1 + j)
  have hjj : j < C2 + 1 - C1 := by omega
  have hpl : r * b.W + (C1 + j) < b.N := pos_lt (by omega) (by omega)
  generalize hc : C1 + j = c at *
  have wk : IntKind.i64.wrap ((r : Int) * b.wide) = ((r * b.W : Nat) : Int) := by
    rw [w3, ← Int.natCast_mul]; exact wrap_id (by omega) (by omega)
  have wk2 : IntKind.i64.wrap (((r * b.W : Nat) : Int) + (c : Int)) = ((r * b.W + c : Nat) : Int) := by
    rw [← Int.natCast_add]; exact wrap_id (by omega) (by omega)
  generalize r * b.W + c = q at *
  generalize r * b.W = q0 at *
  have hqn : ((q : Int) < 0) = False := by simp
  have sl := ushl_one (i := q) (by omega)
  have hp : 2 ^ q < 2 ^ 48 := Nat.pow_lt_pow_right (by decide) (by omega)
  have o1 := ubits_or (a := I r c) (b := 2 ^ q) (by omega) (by omega)
  rw [← hst1] at o1
  simp only [go_sem, Nat.reduceEqDiff, hwj, wk, wk2, hqn, sl, o1]
  exact ⟨hjj, _, Sub.gc [] [8, 7, 1, 3, 6] rfl rfl, rfl⟩
end Go.Proofs.YtafcdpmcmmfbhaaDoor
