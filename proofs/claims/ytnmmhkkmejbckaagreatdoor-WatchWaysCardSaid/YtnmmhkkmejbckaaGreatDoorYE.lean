/- Proved here: laws that the statements need (WzC2, WzC3, WzS, WzT). No conditions but those that each law states. -/
import Derived.Test.YtnmmhkkmejbckaaGreatDoorFL
import Derived.Test.YtnmmhkkmejbckaaGreatDoorFP
import Derived.Test.YtnmmhkkmejbckaaGreatDoorProg
import Derived.Test.YtnmmhkkmejbckaaGreatDoorYD

set_option linter.unusedSimpArgs false
set_option linter.unusedVariables false

/- Compiled code of functions, printed by program; each is checked to be the program's. No conditions. -/
namespace Go.Proofs.YtnmmhkkmejbckaaGreatDoor
open Go Go.Ab
/-- dipworks/dipworksref07.Ints -/
def c13 : AC :=
 .seq (.reg [⟨(some 4), none, .mov (.lit (.bool false))⟩])
 (.seq (.seq (.reg [⟨(some 6), none, .mov (.tmp 0)⟩,
 ⟨(some 7), none, .len (.tmp 6)⟩,
 ⟨(some 8), none, .mov (.tmp 1)⟩,
 ⟨(some 9), none, .len (.tmp 8)⟩,
 ⟨(some 10), none, .bin .neq (.tmp 7) (.tmp 9)⟩])
 (.cond (.tmp 10) (.seq (.reg [⟨(some 4), none, .mov (.lit (.bool false))⟩])
 (.ret))
 (.skip)))
 (.seq (.seq (.reg [⟨(some 5), none, .mov (.lit (.int .i64 0))⟩])
 (.block 0 (.loop (.seq (.seq (.reg [⟨(some 11), none, .mov (.tmp 5)⟩,
 ⟨(some 12), none, .mov (.tmp 0)⟩,
 ⟨(some 13), none, .len (.tmp 12)⟩,
 ⟨(some 14), none, .bin .lss (.tmp 11) (.tmp 13)⟩])
 (.cond (.tmp 14) (.skip)
 (.exit 0)))
 (.seq (.block 1 (.seq (.draw (.step ⟨(some 17), none, .mov (.tmp 0)⟩ (
 .step ⟨(some 18), none, .mov (.tmp 5)⟩ (
 .step ⟨(some 19), none, .iaddr 1 (.tmp 17) (.tmp 18)⟩ (
 .step ⟨(some 20), none, .load false 1 (.tmp 19)⟩ (
 .step ⟨(some 21), none, .mov (.tmp 1)⟩ (
 .step ⟨(some 22), none, .mov (.tmp 5)⟩ (
 .step ⟨(some 23), none, .iaddr 1 (.tmp 21) (.tmp 22)⟩ (
 .step ⟨(some 24), none, .load false 1 (.tmp 23)⟩ (
 .step ⟨(some 25), none, .bin .neq (.tmp 20) (.tmp 24)⟩ (
 .done)))))))))))
 (.cond (.tmp 25) (.seq (.reg [⟨(some 4), none, .mov (.lit (.bool false))⟩])
 (.ret))
 (.skip))))
 (.reg [⟨(some 15), none, .mov (.tmp 5)⟩,
 ⟨(some 16), none, .bin .add (.tmp 15) (.lit (.int .i64 1))⟩,
 ⟨(some 5), none, .mov (.tmp 16)⟩]))))))
 (.seq (.reg [⟨(some 4), none, .mov (.lit (.bool true))⟩])
 (.ret))))
theorem k13 : FnC Tryz.prog 13 26 [] [] [.tmp 4] c13 2 := ⟨Tryz.f13, _, Tryz.func13, rfl, by decide, rfl, by decide, by kernel_rfl, by kernel_rfl⟩
/-- dipworks/dipworksref07.Size -/
def c68 : AC :=
 .seq (.reg [⟨(some 2), none, .mov (.lit (.int .i64 0))⟩])
 (.seq (.reg [⟨(some 3), none, .mov (.lit (.int .i64 0))⟩])
 (.seq (.block 0 (.loop (.seq (.seq (.reg [⟨(some 4), none, .mov (.tmp 0)⟩,
 ⟨(some 5), none, .bin .gtr (.tmp 4) (.lit (.int .i64 0))⟩])
 (.cond (.tmp 5) (.skip)
 (.exit 0)))
 (.block 1 (.seq (.reg [⟨(some 6), none, .mov (.tmp 3)⟩,
 ⟨(some 7), none, .mov (.tmp 0)⟩,
 ⟨(some 8), none, .bin .rem (.tmp 7) (.lit (.int .i64 2))⟩,
 ⟨(some 9), none, .bin .add (.tmp 6) (.tmp 8)⟩,
 ⟨(some 3), none, .mov (.tmp 9)⟩])
 (.reg [⟨(some 10), none, .mov (.tmp 0)⟩,
 ⟨(some 11), none, .bin .quo (.tmp 10) (.lit (.int .i64 2))⟩,
 ⟨(some 0), none, .mov (.tmp 11)⟩]))))))
 (.seq (.reg [⟨(some 12), none, .mov (.tmp 3)⟩,
 ⟨(some 2), none, .mov (.tmp 12)⟩])
 (.ret))))
theorem k68 : FnC Tryz.prog 68 13 [] [] [.tmp 2] c68 1 := ⟨Tryz.f68, _, Tryz.func68, rfl, by decide, rfl, by decide, by kernel_rfl, by kernel_rfl⟩
/-- dipworks/dipworksref07.Watches -/
def c16 : AC :=
 .seq (.reg [⟨(some 1), none, .box (.tmp 0)⟩,
 ⟨(some 2), none, .mov (.lit (.bool false))⟩])
 (.seq (.seq (.reg [⟨(some 7), none, .faddr 0 (.tmp 1)⟩,
 ⟨(some 8), none, .load false 1 (.tmp 7)⟩,
 ⟨(some 9), none, .len (.tmp 8)⟩,
 ⟨(some 10), none, .bin .gtr (.tmp 9) (.lit (.int .i64 5))⟩,
 ⟨(some 11), none, .mov (.tmp 10)⟩,
 ⟨(some 12), (some (11, false)), .faddr 1 (.tmp 1)⟩,
 ⟨(some 13), (some (11, false)), .load false 1 (.tmp 12)⟩,
 ⟨(some 14), (some (11, false)), .len (.tmp 13)⟩,
 ⟨(some 15), (some (11, false)), .bin .gtr (.tmp 14) (.lit (.int .i64 4))⟩,
 ⟨(some 16), none, .pick (.tmp 11) (.lit (.bool true)) (.tmp 15)⟩])
 (.cond (.tmp 16) (.seq (.reg [⟨(some 2), none, .mov (.lit (.bool false))⟩])
 (.ret))
 (.skip)))
 (.seq (.seq (.reg [⟨(some 3), none, .mov (.lit (.int .i64 0))⟩])
 (.block 0 (.loop (.seq (.seq (.reg [⟨(some 17), none, .mov (.tmp 3)⟩,
 ⟨(some 18), none, .faddr 0 (.tmp 1)⟩,
 ⟨(some 19), none, .load false 1 (.tmp 18)⟩,
 ⟨(some 20), none, .len (.tmp 19)⟩,
 ⟨(some 21), none, .bin .lss (.tmp 17) (.tmp 20)⟩])
 (.cond (.tmp 21) (.skip)
 (.exit 0)))
 (.seq (.block 1 (.seq (.reg [⟨(some 24), none, .faddr 0 (.tmp 1)⟩,
 ⟨(some 25), none, .load false 1 (.tmp 24)⟩,
 ⟨(some 26), none, .mov (.tmp 3)⟩,
 ⟨(some 27), none, .iaddr 4 (.tmp 25) (.tmp 26)⟩,
 ⟨(some 28), none, .load true 4 (.tmp 27)⟩,
 ⟨(some 4), none, .alloc [(.int .i64 0), (.int .i64 0), (.int .i64 0), (.int .i64 0)]⟩,
 ⟨none, none, .store 4 (.tmp 4) (.tmp 28)⟩])
 (.seq (.draw (.step ⟨(some 29), none, .faddr 0 (.tmp 4)⟩ (
 .step ⟨(some 30), none, .load false 1 (.tmp 29)⟩ (
 .ev ⟨(some 31), none, .call (.fn 40) [(.tmp 30)]⟩ [⟨(some 29), none, .faddr 0 (.tmp 4)⟩] (
 .step ⟨(some 32), none, .un .not (.tmp 31)⟩ (
 .step ⟨(some 33), none, .mov (.tmp 32)⟩ (
 .step ⟨(some 34), (some (33, false)), .faddr 1 (.tmp 4)⟩ (
 .step ⟨(some 35), (some (33, false)), .load true 2 (.tmp 34)⟩ (
 .ev ⟨(some 36), (some (33, false)), .call (.fn 50) [(.tmp 35), (.lit (.int .i64 (-10))), (.lit (.int .i64 10)), (.lit (.int .i64 2))]⟩ [⟨(some 34), (some (33, false)), .faddr 1 (.tmp 4)⟩, ⟨(some 30), none, .load false 1 (.tmp 29)⟩, ⟨(some 29), none, .faddr 0 (.tmp 4)⟩] (
 .step ⟨(some 37), (some (33, false)), .un .not (.tmp 36)⟩ (
 .step ⟨(some 38), none, .pick (.tmp 33) (.lit (.bool true)) (.tmp 37)⟩ (
 .step ⟨(some 39), none, .mov (.tmp 38)⟩ (
 .step ⟨(some 40), (some (39, false)), .faddr 3 (.tmp 4)⟩ (
 .step ⟨(some 41), (some (39, false)), .load false 1 (.tmp 40)⟩ (
 .ev ⟨(some 42), (some (39, false)), .call (.fn 46) [(.lit (.int .i64 6))]⟩ [⟨(some 41), (some (39, false)), .load false 1 (.tmp 40)⟩, ⟨(some 40), (some (39, false)), .faddr 3 (.tmp 4)⟩, ⟨(some 35), (some (33, false)), .load true 2 (.tmp 34)⟩, ⟨(some 34), (some (33, false)), .faddr 1 (.tmp 4)⟩, ⟨(some 30), none, .load false 1 (.tmp 29)⟩, ⟨(some 29), none, .faddr 0 (.tmp 4)⟩] (
 .step ⟨(some 43), (some (39, false)), .bin .sub (.tmp 42) (.lit (.int .i64 1))⟩ (
 .ev ⟨(some 44), (some (39, false)), .call (.fn 51) [(.tmp 41), (.lit (.int .i64 0)), (.tmp 43)]⟩ [⟨(some 40), (some (39, false)), .faddr 3 (.tmp 4)⟩, ⟨(some 35), (some (33, false)), .load true 2 (.tmp 34)⟩, ⟨(some 34), (some (33, false)), .faddr 1 (.tmp 4)⟩, ⟨(some 30), none, .load false 1 (.tmp 29)⟩, ⟨(some 29), none, .faddr 0 (.tmp 4)⟩] (
 .step ⟨(some 45), (some (39, false)), .un .not (.tmp 44)⟩ (
 .step ⟨(some 46), none, .pick (.tmp 39) (.lit (.bool true)) (.tmp 45)⟩ (
 .done)))
 (.stop)))
 (.stop)))))))
 (.stop))))))
 (.stop)))))
 (.cond (.tmp 46) (.seq (.reg [⟨(some 2), none, .mov (.lit (.bool false))⟩])
 (.ret))
 (.skip)))))
 (.reg [⟨(some 22), none, .mov (.tmp 3)⟩,
 ⟨(some 23), none, .bin .add (.tmp 22) (.lit (.int .i64 1))⟩,
 ⟨(some 3), none, .mov (.tmp 23)⟩]))))))
 (.seq (.seq (.reg [⟨(some 5), none, .mov (.lit (.int .i64 0))⟩])
 (.block 2 (.loop (.seq (.seq (.reg [⟨(some 47), none, .mov (.tmp 5)⟩,
 ⟨(some 48), none, .faddr 1 (.tmp 1)⟩,
 ⟨(some 49), none, .load false 1 (.tmp 48)⟩,
 ⟨(some 50), none, .len (.tmp 49)⟩,
 ⟨(some 51), none, .bin .lss (.tmp 47) (.tmp 50)⟩])
 (.cond (.tmp 51) (.skip)
 (.exit 2)))
 (.seq (.block 3 (.seq (.reg [⟨(some 54), none, .faddr 1 (.tmp 1)⟩,
 ⟨(some 55), none, .load false 1 (.tmp 54)⟩,
 ⟨(some 56), none, .mov (.tmp 5)⟩,
 ⟨(some 57), none, .iaddr 5 (.tmp 55) (.tmp 56)⟩,
 ⟨(some 58), none, .load true 5 (.tmp 57)⟩,
 ⟨(some 6), none, .alloc [(.int .i64 0), (.int .i64 0), (.int .i64 0), (.int .i64 0), (.bool false)]⟩,
 ⟨none, none, .store 5 (.tmp 6) (.tmp 58)⟩])
 (.seq (.reg [⟨(some 59), none, .faddr 0 (.tmp 6)⟩,
 ⟨(some 60), none, .load false 1 (.tmp 59)⟩,
 ⟨(some 61), none, .call (.fn 51) [(.tmp 60), (.lit (.int .i64 0)), (.lit (.int .i64 5))]⟩,
 ⟨(some 62), none, .un .not (.tmp 61)⟩,
 ⟨(some 63), none, .mov (.tmp 62)⟩,
 ⟨(some 64), (some (63, false)), .faddr 1 (.tmp 6)⟩,
 ⟨(some 65), (some (63, false)), .load false 1 (.tmp 64)⟩,
 ⟨(some 66), (some (63, false)), .call (.fn 40) [(.tmp 65)]⟩,
 ⟨(some 67), (some (63, false)), .un .not (.tmp 66)⟩,
 ⟨(some 68), none, .pick (.tmp 63) (.lit (.bool true)) (.tmp 67)⟩,
 ⟨(some 69), none, .mov (.tmp 68)⟩,
 ⟨(some 70), (some (69, false)), .faddr 2 (.tmp 6)⟩,
 ⟨(some 71), (some (69, false)), .load true 2 (.tmp 70)⟩,
 ⟨(some 72), (some (69, false)), .call (.fn 50) [(.tmp 71), (.lit (.int .i64 0)), (.lit (.int .i64 719)), (.lit (.int .i64 30))]⟩,
 ⟨(some 73), (some (69, false)), .un .not (.tmp 72)⟩,
 ⟨(some 74), none, .pick (.tmp 69) (.lit (.bool true)) (.tmp 73)⟩])
 (.cond (.tmp 74) (.seq (.reg [⟨(some 2), none, .mov (.lit (.bool false))⟩])
 (.ret))
 (.skip)))))
 (.reg [⟨(some 52), none, .mov (.tmp 5)⟩,
 ⟨(some 53), none, .bin .add (.tmp 52) (.lit (.int .i64 1))⟩,
 ⟨(some 5), none, .mov (.tmp 53)⟩]))))))
 (.seq (.reg [⟨(some 2), none, .mov (.lit (.bool true))⟩])
 (.ret)))))
theorem k16 : FnC Tryz.prog 16 75 [] [] [.tmp 2] c16 1 := ⟨Tryz.f16, _, Tryz.func16, rfl, by decide, rfl, by decide, by kernel_rfl, by kernel_rfl⟩
/-- dipworks/dipworksref07.Spans -/
def c14 : AC :=
 .seq (.reg [⟨(some 4), none, .mov (.lit (.bool false))⟩])
 (.seq (.seq (.reg [⟨(some 6), none, .mov (.tmp 0)⟩,
 ⟨(some 7), none, .len (.tmp 6)⟩,
 ⟨(some 8), none, .mov (.tmp 1)⟩,
 ⟨(some 9), none, .len (.tmp 8)⟩,
 ⟨(some 10), none, .bin .neq (.tmp 7) (.tmp 9)⟩])
 (.cond (.tmp 10) (.seq (.reg [⟨(some 4), none, .mov (.lit (.bool false))⟩])
 (.ret))
 (.skip)))
 (.seq (.seq (.reg [⟨(some 5), none, .mov (.lit (.int .i64 0))⟩])
 (.block 0 (.loop (.seq (.seq (.reg [⟨(some 11), none, .mov (.tmp 5)⟩,
 ⟨(some 12), none, .mov (.tmp 0)⟩,
 ⟨(some 13), none, .len (.tmp 12)⟩,
 ⟨(some 14), none, .bin .lss (.tmp 11) (.tmp 13)⟩])
 (.cond (.tmp 14) (.skip)
 (.exit 0)))
 (.seq (.block 1 (.seq (.draw (.step ⟨(some 17), none, .mov (.tmp 0)⟩ (
 .step ⟨(some 18), none, .mov (.tmp 5)⟩ (
 .step ⟨(some 19), none, .iaddr 2 (.tmp 17) (.tmp 18)⟩ (
 .step ⟨(some 20), none, .load true 2 (.tmp 19)⟩ (
 .step ⟨(some 21), none, .mov (.tmp 1)⟩ (
 .step ⟨(some 22), none, .mov (.tmp 5)⟩ (
 .step ⟨(some 23), none, .iaddr 2 (.tmp 21) (.tmp 22)⟩ (
 .step ⟨(some 24), none, .load true 2 (.tmp 23)⟩ (
 .step ⟨(some 25), none, .eqs true [(some .i64), (some .i64)] (.tmp 20) (.tmp 24)⟩ (
 .done)))))))))))
 (.cond (.tmp 25) (.seq (.reg [⟨(some 4), none, .mov (.lit (.bool false))⟩])
 (.ret))
 (.skip))))
 (.reg [⟨(some 15), none, .mov (.tmp 5)⟩,
 ⟨(some 16), none, .bin .add (.tmp 15) (.lit (.int .i64 1))⟩,
 ⟨(some 5), none, .mov (.tmp 16)⟩]))))))
 (.seq (.reg [⟨(some 4), none, .mov (.lit (.bool true))⟩])
 (.ret))))
theorem k14 : FnC Tryz.prog 14 26 [] [] [.tmp 4] c14 2 := ⟨Tryz.f14, _, Tryz.func14, rfl, by decide, rfl, by decide, by kernel_rfl, by kernel_rfl⟩
/-- dipworks/dipworksref07.Minute -/
def c40 : AC :=
 .seq (.reg [⟨(some 2), none, .mov (.lit (.bool false))⟩])
 (.seq (.reg [⟨(some 3), none, .mov (.tmp 0)⟩,
 ⟨(some 4), none, .call (.fn 51) [(.tmp 3), (.lit (.int .i64 0)), (.lit (.int .i64 1440))]⟩,
 ⟨(some 2), none, .mov (.tmp 4)⟩])
 (.ret))
theorem k40 : FnC Tryz.prog 40 5 [] [] [.tmp 2] c40 1 := ⟨Tryz.f40, _, Tryz.func40, rfl, by decide, rfl, by decide, by kernel_rfl, by kernel_rfl⟩
/-- dipworks/dipworksref07.span -/
def c50 : AC :=
 .seq (.reg [⟨(some 4), none, .box (.tmp 0)⟩,
 ⟨(some 8), none, .mov (.lit (.bool false))⟩])
 (.seq (.reg [⟨(some 9), none, .mov (.tmp 1)⟩,
 ⟨(some 10), none, .faddr 0 (.tmp 4)⟩,
 ⟨(some 11), none, .load false 1 (.tmp 10)⟩,
 ⟨(some 12), none, .bin .leq (.tmp 9) (.tmp 11)⟩,
 ⟨(some 13), none, .mov (.tmp 12)⟩,
 ⟨(some 14), (some (13, true)), .faddr 0 (.tmp 4)⟩,
 ⟨(some 15), (some (13, true)), .load false 1 (.tmp 14)⟩,
 ⟨(some 16), (some (13, true)), .faddr 1 (.tmp 4)⟩,
 ⟨(some 17), (some (13, true)), .load false 1 (.tmp 16)⟩,
 ⟨(some 18), (some (13, true)), .bin .leq (.tmp 15) (.tmp 17)⟩,
 ⟨(some 19), none, .pick (.tmp 13) (.tmp 18) (.lit (.bool false))⟩,
 ⟨(some 20), none, .mov (.tmp 19)⟩,
 ⟨(some 21), (some (20, true)), .faddr 1 (.tmp 4)⟩,
 ⟨(some 22), (some (20, true)), .load false 1 (.tmp 21)⟩,
 ⟨(some 23), (some (20, true)), .mov (.tmp 2)⟩,
 ⟨(some 24), (some (20, true)), .bin .leq (.tmp 22) (.tmp 23)⟩,
 ⟨(some 25), none, .pick (.tmp 20) (.tmp 24) (.lit (.bool false))⟩,
 ⟨(some 26), none, .mov (.tmp 25)⟩,
 ⟨(some 27), (some (26, true)), .faddr 1 (.tmp 4)⟩,
 ⟨(some 28), (some (26, true)), .load false 1 (.tmp 27)⟩,
 ⟨(some 29), (some (26, true)), .faddr 0 (.tmp 4)⟩,
 ⟨(some 30), (some (26, true)), .load false 1 (.tmp 29)⟩,
 ⟨(some 31), (some (26, true)), .bin .sub (.tmp 28) (.tmp 30)⟩,
 ⟨(some 32), (some (26, true)), .mov (.tmp 3)⟩,
 ⟨(some 33), (some (26, true)), .bin .leq (.tmp 31) (.tmp 32)⟩,
 ⟨(some 34), none, .pick (.tmp 26) (.tmp 33) (.lit (.bool false))⟩,
 ⟨(some 8), none, .mov (.tmp 34)⟩])
 (.ret))
theorem k50 : FnC Tryz.prog 50 35 [] [] [.tmp 8] c50 4 := ⟨Tryz.f50, _, Tryz.func50, rfl, by decide, rfl, by decide, by kernel_rfl, by kernel_rfl⟩
/-- dipworks/dipworksref07.in -/
def c51 : AC :=
 .seq (.reg [⟨(some 6), none, .mov (.lit (.bool false))⟩])
 (.seq (.reg [⟨(some 7), none, .mov (.tmp 1)⟩,
 ⟨(some 8), none, .mov (.tmp 0)⟩,
 ⟨(some 9), none, .bin .leq (.tmp 7) (.tmp 8)⟩,
 ⟨(some 10), none, .mov (.tmp 9)⟩,
 ⟨(some 11), (some (10, true)), .mov (.tmp 0)⟩,
 ⟨(some 12), (some (10, true)), .mov (.tmp 2)⟩,
 ⟨(some 13), (some (10, true)), .bin .leq (.tmp 11) (.tmp 12)⟩,
 ⟨(some 14), none, .pick (.tmp 10) (.tmp 13) (.lit (.bool false))⟩,
 ⟨(some 6), none, .mov (.tmp 14)⟩])
 (.ret))
theorem k51 : FnC Tryz.prog 51 15 [] [] [.tmp 6] c51 3 := ⟨Tryz.f51, _, Tryz.func51, rfl, by decide, rfl, by decide, by kernel_rfl, by kernel_rfl⟩
/-- dipworks/dipworksref07.power -/
def c46 : AC :=
 .seq (.reg [⟨(some 2), none, .mov (.lit (.int .i64 0))⟩])
 (.seq (.reg [⟨(some 3), none, .mov (.lit (.int .i64 1))⟩])
 (.seq (.seq (.reg [⟨(some 4), none, .mov (.lit (.int .i64 0))⟩])
 (.block 0 (.loop (.seq (.seq (.reg [⟨(some 5), none, .mov (.tmp 4)⟩,
 ⟨(some 6), none, .mov (.tmp 0)⟩,
 ⟨(some 7), none, .bin .lss (.tmp 5) (.tmp 6)⟩])
 (.cond (.tmp 7) (.skip)
 (.exit 0)))
 (.seq (.block 1 (.reg [⟨(some 10), none, .mov (.tmp 3)⟩,
 ⟨(some 11), none, .bin .mul (.lit (.int .i64 2)) (.tmp 10)⟩,
 ⟨(some 3), none, .mov (.tmp 11)⟩]))
 (.reg [⟨(some 8), none, .mov (.tmp 4)⟩,
 ⟨(some 9), none, .bin .add (.tmp 8) (.lit (.int .i64 1))⟩,
 ⟨(some 4), none, .mov (.tmp 9)⟩]))))))
 (.seq (.reg [⟨(some 12), none, .mov (.tmp 3)⟩,
 ⟨(some 2), none, .mov (.tmp 12)⟩])
 (.ret))))
theorem k46 : FnC Tryz.prog 46 13 [] [] [.tmp 2] c46 1 := ⟨Tryz.f46, _, Tryz.func46, rfl, by decide, rfl, by decide, by kernel_rfl, by kernel_rfl⟩
end Go.Proofs.YtnmmhkkmejbckaaGreatDoor

/- Compiled code of functions, printed by program; each is checked to be the program's. No conditions. -/
namespace Go.Proofs.YtnmmhkkmejbckaaGreatDoor
open Go Go.Ab
/-- dipworks/dipworkslaw07.sample -/
def c27 : AC :=
 .seq (.reg [⟨(some 4), none, .alloc [(.slice none 0 0), (.slice none 0 0)]⟩])
 (.seq (.reg [⟨(some 6), none, .call (.fn 70) [(.lit (.int .i64 480)), (.lit (.int .i64 0)), (.lit (.int .i64 0)), (.lit (.int .i64 3))]⟩,
 ⟨(some 7), none, .call (.fn 70) [(.lit (.int .i64 480)), (.lit (.int .i64 6)), (.lit (.int .i64 7)), (.lit (.int .i64 1))]⟩,
 ⟨(some 8), none, .call (.fn 70) [(.lit (.int .i64 600)), (.lit (.int .i64 (-5))), (.lit (.int .i64 (-5))), (.lit (.int .i64 6))]⟩,
 ⟨(some 9), none, .bslice 4 (.agg #[(.int .i64 0), (.int .i64 0), (.int .i64 0), (.int .i64 0)]) 3 [(0, (.tmp 6)), (1, (.tmp 7)), (2, (.tmp 8))]⟩,
 ⟨(some 10), none, .call (.fn 71) [(.lit (.int .i64 0)), (.lit (.int .i64 600)), (.lit (.int .i64 600)), (.lit (.int .i64 612)), (.lit (.bool false))]⟩,
 ⟨(some 11), none, .mov (.tmp 1)⟩,
 ⟨(some 12), none, .call (.fn 71) [(.lit (.int .i64 1)), (.lit (.int .i64 660)), (.lit (.int .i64 655)), (.tmp 11), (.lit (.bool false))]⟩,
 ⟨(some 13), none, .bslice 5 (.agg #[(.int .i64 0), (.int .i64 0), (.int .i64 0), (.int .i64 0), (.bool false)]) 2 [(0, (.tmp 10)), (1, (.tmp 12))]⟩,
 ⟨(some 14), none, .build [(.slice none 0 0), (.slice none 0 0)] [(0, 1, (.tmp 9)), (1, 1, (.tmp 13))]⟩,
 ⟨(some 5), none, .alloc [(.slice none 0 0), (.slice none 0 0)]⟩,
 ⟨none, none, .store 2 (.tmp 5) (.tmp 14)⟩])
 (.seq (.seq (.reg [⟨(some 15), none, .mov (.tmp 0)⟩])
 (.cond (.tmp 15) (.draw (.step ⟨(some 16), none, .faddr 1 (.tmp 5)⟩ (
 .step ⟨(some 17), none, .load false 1 (.tmp 16)⟩ (
 .ev ⟨(some 18), none, .call (.fn 71) [(.lit (.int .i64 2)), (.lit (.int .i64 760)), (.lit (.int .i64 10)), (.lit (.int .i64 11)), (.lit (.bool true))]⟩ [⟨(some 17), none, .load false 1 (.tmp 16)⟩, ⟨(some 16), none, .faddr 1 (.tmp 5)⟩] (
 .ev ⟨(some 19), none, .bslice 5 (.agg #[(.int .i64 0), (.int .i64 0), (.int .i64 0), (.int .i64 0), (.bool false)]) 1 [(0, (.tmp 18))]⟩ [⟨(some 17), none, .load false 1 (.tmp 16)⟩, ⟨(some 16), none, .faddr 1 (.tmp 5)⟩] (
 .ev ⟨(some 20), none, .app 5 40 (.tmp 17) (.tmp 19)⟩ [⟨(some 16), none, .faddr 1 (.tmp 5)⟩] (
 .step ⟨(some 21), none, .faddr 1 (.tmp 5)⟩ (
 .ev ⟨none, none, .store 1 (.tmp 21) (.tmp 20)⟩ [] (
 .done)
 (.stop)))
 (.stop))
 (.stop))
 (.stop)))))
 (.skip)))
 (.seq (.reg [⟨(some 22), none, .load true 2 (.tmp 5)⟩,
 ⟨none, none, .store 2 (.tmp 4) (.tmp 22)⟩])
 (.ret))))
theorem k27 : FnC Tryz.prog 27 23 [4] [] [.cell 4 true 2] c27 2 := ⟨Tryz.f27, _, Tryz.func27, rfl, by decide, rfl, by decide, by kernel_rfl, by kernel_rfl⟩
/-- dipworks/dipworkslaw07.alive -/
def c6 : AC :=
 .seq (.reg [⟨(some 0), none, .mov (.lit (.bool false))⟩])
 (.seq (.reg [⟨(some 19), none, .call (.fn 27) [(.lit (.bool false)), (.lit (.int .i64 660))]⟩,
 ⟨(some 20), none, .call (.fn 7) [(.tmp 19), (.lit (.int .i64 1)), (.lit (.int .i64 600))]⟩,
 ⟨(some 18), none, .mov (.tmp 20)⟩,
 ⟨(some 21), none, .ext (.tmp 18) 0⟩,
 ⟨(some 22), none, .ext (.tmp 18) 1⟩,
 ⟨(some 1), none, .mov (.tmp 21)⟩,
 ⟨(some 2), none, .mov (.tmp 22)⟩])
 (.seq (.reg [⟨(some 24), none, .call (.fn 27) [(.lit (.bool false)), (.lit (.int .i64 660))]⟩,
 ⟨(some 25), none, .call (.fn 9) [(.tmp 24), (.lit (.int .i64 0))]⟩,
 ⟨(some 23), none, .mov (.tmp 25)⟩,
 ⟨(some 26), none, .ext (.tmp 23) 0⟩,
 ⟨(some 27), none, .ext (.tmp 23) 1⟩,
 ⟨(some 3), none, .mov (.tmp 26)⟩,
 ⟨(some 4), none, .mov (.tmp 27)⟩])
 (.seq (.reg [⟨(some 29), none, .call (.fn 27) [(.lit (.bool true)), (.lit (.int .i64 660))]⟩,
 ⟨(some 30), none, .call (.fn 11) [(.tmp 29), (.lit (.int .i64 2)), (.lit (.int .i64 2))]⟩,
 ⟨(some 28), none, .mov (.tmp 30)⟩,
 ⟨(some 31), none, .ext (.tmp 28) 0⟩,
 ⟨(some 32), none, .ext (.tmp 28) 1⟩,
 ⟨(some 5), none, .mov (.tmp 31)⟩,
 ⟨(some 6), none, .mov (.tmp 32)⟩])
 (.seq (.reg [⟨(some 34), none, .call (.fn 27) [(.lit (.bool false)), (.lit (.int .i64 660))]⟩,
 ⟨(some 35), none, .call (.fn 17) [(.tmp 34)]⟩,
 ⟨(some 33), none, .mov (.tmp 35)⟩,
 ⟨(some 36), none, .ext (.tmp 33) 0⟩,
 ⟨(some 37), none, .ext (.tmp 33) 1⟩,
 ⟨(some 7), none, .mov (.tmp 36)⟩,
 ⟨(some 8), none, .mov (.tmp 37)⟩])
 (.seq (.reg [⟨(some 39), none, .call (.fn 27) [(.lit (.bool true)), (.lit (.int .i64 660))]⟩,
 ⟨(some 40), none, .call (.fn 19) [(.tmp 39), (.lit (.int .i64 0))]⟩,
 ⟨(some 38), none, .mov (.tmp 40)⟩,
 ⟨(some 41), none, .ext (.tmp 38) 0⟩,
 ⟨(some 42), none, .ext (.tmp 38) 1⟩,
 ⟨(some 9), none, .mov (.tmp 41)⟩,
 ⟨(some 10), none, .mov (.tmp 42)⟩])
 (.seq (.reg [⟨(some 44), none, .call (.fn 27) [(.lit (.bool false)), (.lit (.int .i64 660))]⟩,
 ⟨(some 45), none, .call (.fn 21) [(.tmp 44), (.lit (.int .i64 0))]⟩,
 ⟨(some 43), none, .mov (.tmp 45)⟩,
 ⟨(some 46), none, .ext (.tmp 43) 0⟩,
 ⟨(some 47), none, .ext (.tmp 43) 1⟩,
 ⟨(some 48), none, .ext (.tmp 43) 2⟩,
 ⟨(some 11), none, .mov (.tmp 46)⟩,
 ⟨(some 12), none, .mov (.tmp 47)⟩,
 ⟨(some 13), none, .mov (.tmp 48)⟩])
 (.seq (.reg [⟨(some 50), none, .call (.fn 27) [(.lit (.bool true)), (.lit (.int .i64 660))]⟩,
 ⟨(some 51), none, .call (.fn 23) [(.tmp 50)]⟩,
 ⟨(some 49), none, .mov (.tmp 51)⟩,
 ⟨(some 52), none, .ext (.tmp 49) 0⟩,
 ⟨(some 53), none, .ext (.tmp 49) 1⟩,
 ⟨(some 14), none, .mov (.tmp 52)⟩,
 ⟨(some 15), none, .mov (.tmp 53)⟩])
 (.seq (.reg [⟨(some 55), none, .call (.fn 27) [(.lit (.bool true)), (.lit (.int .i64 656))]⟩,
 ⟨(some 56), none, .call (.fn 25) [(.tmp 55)]⟩,
 ⟨(some 54), none, .mov (.tmp 56)⟩,
 ⟨(some 57), none, .ext (.tmp 54) 0⟩,
 ⟨(some 58), none, .ext (.tmp 54) 1⟩,
 ⟨(some 16), none, .mov (.tmp 57)⟩,
 ⟨(some 17), none, .mov (.tmp 58)⟩])
 (.seq (.reg [⟨(some 59), none, .mov (.tmp 1)⟩,
 ⟨(some 60), none, .bslice 1 (.int .i64 0) 2 [(0, (.lit (.int .i64 612))), (1, (.lit (.int .i64 614)))]⟩,
 ⟨(some 61), none, .call (.fn 13) [(.tmp 59), (.tmp 60)]⟩,
 ⟨(some 62), none, .mov (.tmp 61)⟩,
 ⟨(some 63), (some (62, true)), .mov (.tmp 2)⟩,
 ⟨(some 64), (some (62, true)), .bin .eql (.tmp 63) (.lit (.int .i64 0))⟩,
 ⟨(some 65), none, .pick (.tmp 62) (.tmp 64) (.lit (.bool false))⟩,
 ⟨(some 66), none, .mov (.tmp 65)⟩,
 ⟨(some 67), (some (66, true)), .mov (.tmp 3)⟩,
 ⟨(some 68), (some (66, true)), .bin .eql (.tmp 67) (.lit (.int .i64 3))⟩,
 ⟨(some 69), none, .pick (.tmp 66) (.tmp 68) (.lit (.bool false))⟩,
 ⟨(some 70), none, .mov (.tmp 69)⟩,
 ⟨(some 71), (some (70, true)), .mov (.tmp 4)⟩,
 ⟨(some 72), (some (70, true)), .bin .eql (.tmp 71) (.lit (.int .i64 0))⟩,
 ⟨(some 73), none, .pick (.tmp 70) (.tmp 72) (.lit (.bool false))⟩,
 ⟨(some 74), none, .mov (.tmp 73)⟩,
 ⟨(some 75), (some (74, true)), .mov (.tmp 5)⟩,
 ⟨(some 76), (some (74, true)), .call (.fn 28) [(.lit (.int .i64 742)), (.lit (.int .i64 743))]⟩,
 ⟨(some 77), (some (74, true)), .bslice 2 (.agg #[(.int .i64 0), (.int .i64 0)]) 1 [(0, (.tmp 76))]⟩,
 ⟨(some 78), (some (74, true)), .call (.fn 14) [(.tmp 75), (.tmp 77)]⟩,
 ⟨(some 79), none, .pick (.tmp 74) (.tmp 78) (.lit (.bool false))⟩,
 ⟨(some 80), none, .mov (.tmp 79)⟩,
 ⟨(some 81), (some (80, true)), .mov (.tmp 6)⟩,
 ⟨(some 82), (some (80, true)), .bin .eql (.tmp 81) (.lit (.int .i64 0))⟩,
 ⟨(some 83), none, .pick (.tmp 80) (.tmp 82) (.lit (.bool false))⟩,
 ⟨(some 84), none, .mov (.tmp 83)⟩,
 ⟨(some 85), (some (84, true)), .mov (.tmp 7)⟩,
 ⟨(some 86), (some (84, true)), .bin .eql (.tmp 85) (.lit (.int .i64 3))⟩,
 ⟨(some 87), none, .pick (.tmp 84) (.tmp 86) (.lit (.bool false))⟩,
 ⟨(some 88), none, .mov (.tmp 87)⟩,
 ⟨(some 89), (some (88, true)), .mov (.tmp 8)⟩,
 ⟨(some 90), (some (88, true)), .bin .eql (.tmp 89) (.lit (.int .i64 0))⟩,
 ⟨(some 91), none, .pick (.tmp 88) (.tmp 90) (.lit (.bool false))⟩,
 ⟨(some 92), none, .mov (.tmp 91)⟩,
 ⟨(some 93), (some (92, true)), .mov (.tmp 9)⟩,
 ⟨(some 94), (some (92, true)), .bin .eql (.tmp 93) (.lit (.int .i64 2))⟩,
 ⟨(some 95), none, .pick (.tmp 92) (.tmp 94) (.lit (.bool false))⟩,
 ⟨(some 96), none, .mov (.tmp 95)⟩,
 ⟨(some 97), (some (96, true)), .mov (.tmp 10)⟩,
 ⟨(some 98), (some (96, true)), .bin .eql (.tmp 97) (.lit (.int .i64 0))⟩,
 ⟨(some 99), none, .pick (.tmp 96) (.tmp 98) (.lit (.bool false))⟩,
 ⟨(some 100), none, .mov (.tmp 99)⟩,
 ⟨(some 101), (some (100, true)), .mov (.tmp 11)⟩,
 ⟨(some 102), (some (100, true)), .bin .eql (.tmp 101) (.lit (.int .i64 3))⟩,
 ⟨(some 103), none, .pick (.tmp 100) (.tmp 102) (.lit (.bool false))⟩,
 ⟨(some 104), none, .mov (.tmp 103)⟩,
 ⟨(some 105), (some (104, true)), .mov (.tmp 12)⟩,
 ⟨(some 106), none, .pick (.tmp 104) (.tmp 105) (.lit (.bool false))⟩,
 ⟨(some 107), none, .mov (.tmp 106)⟩,
 ⟨(some 108), (some (107, true)), .mov (.tmp 13)⟩,
 ⟨(some 109), (some (107, true)), .bin .eql (.tmp 108) (.lit (.int .i64 0))⟩,
 ⟨(some 110), none, .pick (.tmp 107) (.tmp 109) (.lit (.bool false))⟩,
 ⟨(some 111), none, .mov (.tmp 110)⟩,
 ⟨(some 112), (some (111, true)), .mov (.tmp 14)⟩,
 ⟨(some 113), (some (111, true)), .bslice 1 (.int .i64 0) 3 [(0, (.lit (.int .i64 1))), (1, (.lit (.int .i64 0))), (2, (.lit (.int .i64 2)))]⟩,
 ⟨(some 114), (some (111, true)), .call (.fn 13) [(.tmp 112), (.tmp 113)]⟩,
 ⟨(some 115), none, .pick (.tmp 111) (.tmp 114) (.lit (.bool false))⟩,
 ⟨(some 116), none, .mov (.tmp 115)⟩,
 ⟨(some 117), (some (116, true)), .mov (.tmp 15)⟩,
 ⟨(some 118), (some (116, true)), .bin .eql (.tmp 117) (.lit (.int .i64 0))⟩,
 ⟨(some 119), none, .pick (.tmp 116) (.tmp 118) (.lit (.bool false))⟩,
 ⟨(some 120), none, .mov (.tmp 119)⟩,
 ⟨(some 121), (some (120, true)), .mov (.tmp 16)⟩,
 ⟨(some 122), (some (120, true)), .bin .eql (.tmp 121) (.lit (.int .i64 6))⟩,
 ⟨(some 123), none, .pick (.tmp 120) (.tmp 122) (.lit (.bool false))⟩,
 ⟨(some 124), none, .mov (.tmp 123)⟩,
 ⟨(some 125), (some (124, true)), .mov (.tmp 17)⟩,
 ⟨(some 126), (some (124, true)), .bin .eql (.tmp 125) (.lit (.int .i64 0))⟩,
 ⟨(some 127), none, .pick (.tmp 124) (.tmp 126) (.lit (.bool false))⟩,
 ⟨(some 0), none, .mov (.tmp 127)⟩])
 (.ret))))))))))
theorem k6 : FnC Tryz.prog 6 128 [] [] [.tmp 0] c6 0 := ⟨Tryz.f6, _, Tryz.func6, rfl, by decide, rfl, by decide, by kernel_rfl, by kernel_rfl⟩
/-- dipworks/dipworkslaw07.long -/
def c5 : AC :=
 .seq (.reg [⟨(some 1), none, .box (.tmp 0)⟩,
 ⟨(some 2), none, .mov (.lit (.bool false))⟩])
 (.seq (.reg [⟨(some 3), none, .faddr 0 (.tmp 1)⟩,
 ⟨(some 4), none, .load false 1 (.tmp 3)⟩,
 ⟨(some 5), none, .len (.tmp 4)⟩,
 ⟨(some 6), none, .faddr 1 (.tmp 1)⟩,
 ⟨(some 7), none, .load false 1 (.tmp 6)⟩,
 ⟨(some 8), none, .len (.tmp 7)⟩,
 ⟨(some 9), none, .mxmn true (.tmp 5) [(.tmp 8)]⟩,
 ⟨(some 10), none, .bin .gtr (.tmp 9) (.lit (.int .i64 40))⟩,
 ⟨(some 2), none, .mov (.tmp 10)⟩])
 (.ret))
theorem k5 : FnC Tryz.prog 5 11 [] [] [.tmp 2] c5 1 := ⟨Tryz.f5, _, Tryz.func5, rfl, by decide, rfl, by decide, by kernel_rfl, by kernel_rfl⟩
/-- dipworks/dipworkslaw07.owner -/
def c70 : AC :=
 .seq (.reg [⟨(some 8), none, .alloc [(.int .i64 0), (.int .i64 0), (.int .i64 0), (.int .i64 0)]⟩])
 (.seq (.reg [⟨(some 9), none, .mov (.tmp 0)⟩,
 ⟨(some 10), none, .mov (.tmp 1)⟩,
 ⟨(some 11), none, .mov (.tmp 2)⟩,
 ⟨(some 12), none, .call (.fn 28) [(.tmp 10), (.tmp 11)]⟩,
 ⟨(some 13), none, .mov (.tmp 3)⟩,
 ⟨(some 14), none, .build [(.int .i64 0), (.int .i64 0), (.int .i64 0), (.int .i64 0)] [(0, 1, (.tmp 9)), (1, 2, (.tmp 12)), (3, 1, (.tmp 13))]⟩,
 ⟨none, none, .store 4 (.tmp 8) (.tmp 14)⟩])
 (.ret))
theorem k70 : FnC Tryz.prog 70 15 [8] [] [.cell 8 true 4] c70 4 := ⟨Tryz.f70, _, Tryz.func70, rfl, by decide, rfl, by decide, by kernel_rfl, by kernel_rfl⟩
/-- dipworks/dipworkslaw07.find -/
def c71 : AC :=
 .seq (.reg [⟨(some 10), none, .alloc [(.int .i64 0), (.int .i64 0), (.int .i64 0), (.int .i64 0), (.bool false)]⟩])
 (.seq (.reg [⟨(some 11), none, .mov (.tmp 0)⟩,
 ⟨(some 12), none, .mov (.tmp 1)⟩,
 ⟨(some 13), none, .mov (.tmp 2)⟩,
 ⟨(some 14), none, .mov (.tmp 3)⟩,
 ⟨(some 15), none, .call (.fn 28) [(.tmp 13), (.tmp 14)]⟩,
 ⟨(some 16), none, .mov (.tmp 4)⟩,
 ⟨(some 17), none, .build [(.int .i64 0), (.int .i64 0), (.int .i64 0), (.int .i64 0), (.bool false)] [(0, 1, (.tmp 11)), (1, 1, (.tmp 12)), (2, 2, (.tmp 15)), (4, 1, (.tmp 16))]⟩,
 ⟨none, none, .store 5 (.tmp 10) (.tmp 17)⟩])
 (.ret))
theorem k71 : FnC Tryz.prog 71 18 [10] [] [.cell 10 true 5] c71 5 := ⟨Tryz.f71, _, Tryz.func71, rfl, by decide, rfl, by decide, by kernel_rfl, by kernel_rfl⟩
/-- dipworks/dipworkslaw07.span -/
def c28 : AC :=
 .seq (.reg [⟨(some 4), none, .alloc [(.int .i64 0), (.int .i64 0)]⟩])
 (.seq (.reg [⟨(some 5), none, .mov (.tmp 0)⟩,
 ⟨(some 6), none, .mov (.tmp 1)⟩,
 ⟨(some 7), none, .build [(.int .i64 0), (.int .i64 0)] [(0, 1, (.tmp 5)), (1, 1, (.tmp 6))]⟩,
 ⟨none, none, .store 2 (.tmp 4) (.tmp 7)⟩])
 (.ret))
theorem k28 : FnC Tryz.prog 28 8 [4] [] [.cell 4 true 2] c28 2 := ⟨Tryz.f28, _, Tryz.func28, rfl, by decide, rfl, by decide, by kernel_rfl, by kernel_rfl⟩
end Go.Proofs.YtnmmhkkmejbckaaGreatDoor

/- The small functions of the statements and of the document. -/
namespace Go.Proofs.YtnmmhkkmejbckaaGreatDoor
open Go Go.Ab

theorem span2_ok (lo hi : Int) : ACall Tryz.prog 28 [.t (vi lo), .t (vi hi)] [] (ret (tSp lo hi)) := by
  refine ACall.walk k28 ?_
  unfold c28
  simp only [go_sem, Nat.reduceEqDiff, Nat.reduceAdd, Nat.reduceLeDiff, undef]
  exact finL_ret [] ⟨rfl, rfl, rfl, rfl, _, rfl, res_mk rfl⟩
theorem owner_ok (s lo hi h : Int) : ACall Tryz.prog 70 [.t (vi s), .t (vi lo), .t (vi hi), .t (vi h)] [] (ret (.agg [vi s, vi lo, vi hi, vi h])) := by
  have hs := span2_ok lo hi
  refine ACall.walk k70 ?_
  unfold c70
  unfold tSp at hs
  simp only [go_sem, Nat.reduceEqDiff, Nat.reduceAdd]
  refine ACallL.quiet1 hs rfl rfl rfl ?_
  simp only [go_sem, Nat.reduceEqDiff, Nat.reduceAdd, Nat.reduceLeDiff, undef]
  exact finL_ret [] ⟨rfl, rfl, rfl, rfl, _, rfl, res_mk rfl⟩
theorem find_ok (a b lo hi : Int) (s : Bool) : ACall Tryz.prog 71 [.t (vi a), .t (vi b), .t (vi lo), .t (vi hi), .t (vb s)] [] (ret (.agg [vi a, vi b, vi lo, vi hi, vb s])) := by
  have hs := span2_ok lo hi
  refine ACall.walk k71 ?_
  unfold c71
  unfold tSp at hs
  simp only [go_sem, Nat.reduceEqDiff, Nat.reduceAdd]
  refine ACallL.quiet1 hs rfl rfl rfl ?_
  simp only [go_sem, Nat.reduceEqDiff, Nat.reduceAdd, Nat.reduceLeDiff, undef]
  exact finL_ret [] ⟨rfl, rfl, rfl, rfl, _, rfl, res_mk rfl⟩
def Wa.long (w : Wa) : Bool := decide (max (w.os.length : Int) w.fs.length > 40)
theorem long_ok (w : Wa) : ACall Tryz.prog 5 [.t (tWa w)] [] (ret (vb w.long)) := by
  refine ACall.walk k5 ?_
  unfold c5 tWa wa2
  simp only [go_sem, Nat.reduceEqDiff, Nat.reduceAdd, Nat.reduceLeDiff, List.length_map]
  exact finL_ret [] ⟨rfl, rfl, rfl, rfl, _, rfl, ret_mk rfl⟩

/-! ### The document's small functions -/
theorem rin_ok (n lo hi : Int) : ACall Tryz.prog 51 [.t (vi n), .t (vi lo), .t (vi hi)] [] (ret (vb (wI n lo hi))) := by
  refine ACall.walk k51 ?_
  unfold c51
  simp only [go_sem, Nat.reduceEqDiff, Nat.reduceAdd]
  refine BrL.mk (fun h => ?_) (fun h => ?_)
  all_goals simp only [h, go_sem, Nat.reduceEqDiff]
  all_goals refine finL_ret [] ⟨rfl, rfl, rfl, rfl, _, rfl, ret_mk ?_⟩
  all_goals simp at h
  all_goals simp [wI, h]
  omega
theorem rmin_ok (n : Int) : ACall Tryz.prog 40 [.t (vi n)] [] (ret (vb (wI n 0 1440))) := by
  have h := rin_ok n 0 1440
  refine ACall.walk k40 ?_
  unfold c40
  simp only [go_sem, Nat.reduceEqDiff]
  refine ACallL.quiet1 h rfl rfl rfl ?_
  simp only [go_sem, Nat.reduceEqDiff]
  exact finL_ret [] ⟨rfl, rfl, rfl, rfl, _, rfl, ret_mk rfl⟩
def spB (lo hi low high most : Int) : Bool := decide (low ≤ lo) && decide (lo ≤ hi) && decide (hi ≤ high) && decide (hi - lo ≤ most)
theorem rspan_ok (lo hi low high most : Int) (h1 : -1000 ≤ low) (h2 : high ≤ 1000) : ACall Tryz.prog 50 [.t (tSp lo hi), .t (vi low), .t (vi high), .t (vi most)] [] (ret (vb (spB lo hi low high most))) := by
  refine ACall.walk k50 ?_
  unfold c50 tSp spB
  cases g1 : decide (low ≤ lo)
  · simp only [go_sem, Nat.reduceEqDiff, Nat.reduceAdd, Nat.reduceLeDiff, undef, g1]
    exact finL_ret [] ⟨rfl, rfl, rfl, rfl, _, rfl, ret_mk rfl⟩
  cases g2 : decide (lo ≤ hi)
  · simp only [go_sem, Nat.reduceEqDiff, Nat.reduceAdd, Nat.reduceLeDiff, undef, beq_self_eq_true, g1, g2]
    exact finL_ret [] ⟨rfl, rfl, rfl, rfl, _, rfl, ret_mk rfl⟩
  cases g3 : decide (hi ≤ high)
  · simp only [go_sem, Nat.reduceEqDiff, Nat.reduceAdd, Nat.reduceLeDiff, undef, beq_self_eq_true, g1, g2, g3]
    exact finL_ret [] ⟨rfl, rfl, rfl, rfl, _, rfl, ret_mk rfl⟩
  have w1 : IntKind.i64.wrap (hi - lo) = hi - lo := by
    have := of_decide_eq_true g1
    have := of_decide_eq_true g2
    have := of_decide_eq_true g3
    exact wrap_id (by omega) (by omega)
  simp only [go_sem, Nat.reduceEqDiff, Nat.reduceAdd, Nat.reduceLeDiff, beq_self_eq_true, g1, g2, g3, w1]
  exact finL_ret [] ⟨rfl, rfl, rfl, rfl, _, rfl, ret_mk rfl⟩
theorem power_ok (n : Nat) (hn : n ≤ 40) : ACall Tryz.prog 46 [.t (vi n)] [] (ret (vi ((2 ^ n : Nat) : Int))) := by
  refine ACall.walk k46 ?_
  unfold c46
  have hp : ∀ k : Nat, k ≤ 40 → 2 ^ k ≤ 2 ^ 40 := fun k hk => Nat.pow_le_pow_right (by omega) hk
  simp only [go_sem]
  refine awpL_loopK n (fun k s => s = { env := [(4, .t (vi k)), (3, .t (vi ((2 ^ k : Nat) : Int))), (0, .t (vi n))], σ := [] }) ⟨_, Sub.gc [] [4, 3, 0] rfl rfl, rfl⟩ ?_
  rintro k s hk rfl
  simp only [go_sem, Nat.reduceEqDiff]
  refine BrL.mk (fun h => ?_) (fun h => ?_)
  · have hlt : k < n := by simpa using h
    have h1 := hp k (by omega)
    have e1 : IntKind.i64.wrap (2 * ((2 ^ k : Nat) : Int)) = ((2 ^ (k + 1) : Nat) : Int) := by
      rw [Nat.pow_succ]
      generalize 2 ^ k = q at *
      rw [wrap_id (by omega) (by omega)]; omega
    have e2 : IntKind.i64.wrap ((k : Int) + 1) = ((k + 1 : Nat) : Int) := by rw [wrap_id (by omega) (by omega)]; omega
    simp only [h, go_sem, Nat.reduceEqDiff, e1, e2]
    exact ⟨hlt, _, Sub.gc [] [4, 3, 0] rfl rfl, rfl⟩
  · have : k = n := by have : ¬ (k : Int) < n := by simpa using h
                       omega
    subst this
    simp only [h, go_sem, Nat.reduceEqDiff]
    exact finL_ret [] ⟨rfl, rfl, rfl, rfl, _, rfl, res_mk rfl⟩
theorem dec1024 {p : Nat → Prop} [DecidablePred p] (h : ((List.range 1024).all fun n => decide (p n)) = true) (n : Nat) (hn : n < 1024) : p n := by
  have := List.all_eq_true.mp h n (List.mem_range.mpr hn)
  simpa using this
theorem size_step : ∀ m : Nat, m < 1024 → size m = size (m / 2) + m % 2 ∧ size m ≤ 10 := dec1024 (by decide +kernel)
theorem rsize_ok (n : Nat) (hn : n < 1024) : ACall Tryz.prog 68 [.t (vi n)] [] (ret (vi (size n))) := by
  refine ACall.walk k68 ?_
  unfold c68
  simp only [go_sem]
  refine awpL_loopK 11 (fun k s => ∃ m o : Nat, m < 1024 ∧ m * 2 ^ k ≤ n ∧ o + size m = size n ∧ o ≤ k ∧ s = { env := [(0, .t (vi m)), (3, .t (vi o))], σ := [] }) ⟨_, Sub.gc [] [0, 3] rfl rfl, n, 0, hn, by simp, by simp, by omega, rfl⟩ ?_
  rintro k s hk ⟨m, o, hm, hmn, hs, ho, rfl⟩
  simp only [go_sem, Nat.reduceEqDiff]
  refine BrL.mk (fun h => ?_) (fun h => ?_)
  · have hpos : 0 < m := by have : (m : Int) > 0 := by simpa using h
                            omega
    have hk6 : k < 10 := by
      rcases Nat.lt_or_ge k 10 with h | h
      · exact h
      · have h2 : 2 ^ 10 ≤ 2 ^ k := Nat.pow_le_pow_right (by omega) h
        have h3 : 1 * 2 ^ 10 ≤ m * 2 ^ k := Nat.mul_le_mul hpos h2
        omega
    have hst := (size_step m hm).1
    have n2 : ¬ ((2 : Int) = 0) := by omega
    have t1 : (m : Int).tmod 2 = ((m % 2 : Nat) : Int) := by rw [Int.tmod_eq_emod_of_nonneg (by omega)]; omega
    have t2 : (m : Int).tdiv 2 = ((m / 2 : Nat) : Int) := by rw [Int.tdiv_eq_ediv_of_nonneg (by omega)]; omega
    have w1 : IntKind.i64.wrap ((o : Int) + (m % 2 : Nat)) = ((o + m % 2 : Nat) : Int) := by rw [wrap_id (by omega) (by omega)]; omega
    have w2 : IntKind.i64.wrap ((m / 2 : Nat) : Int) = ((m / 2 : Nat) : Int) := wrap_id (by omega) (by omega)
    simp only [h, go_sem, Nat.reduceEqDiff, n2, t1, t2, w1, w2]
    refine ⟨by omega, _, Sub.gc [] [0, 3] rfl rfl, m / 2, o + m % 2, by omega, ?_, by omega, by omega, rfl⟩
    have h3 : m / 2 * 2 ^ (k + 1) = m / 2 * 2 * 2 ^ k := by rw [Nat.pow_succ, Nat.mul_comm (2 ^ k) 2, Nat.mul_assoc]
    have h4 : m / 2 * 2 * 2 ^ k ≤ m * 2 ^ k := Nat.mul_le_mul_right _ (by omega)
    omega
  · have hz : m = 0 := by have : ¬ (m : Int) > 0 := by simpa using h
                          omega
    subst hz
    simp only [go_sem, Nat.reduceEqDiff]
    have : size 0 = 0 := rfl
    exact finL_ret [] ⟨rfl, rfl, rfl, rfl, _, rfl, res_mk (by rw [← hs, this]; rfl)⟩
def tI (l : List Int) : T := .slice 1 (l.map vi)
theorem ints_ok (a b : List Int) (hl : a.length < 9223372036854775808) : ACall Tryz.prog 13 [.t (tI a), .t (tI b)] [] (ret (vb (decide (a = b)))) := by
  refine ACall.walk k13 ?_
  unfold c13
  unfold tI
  simp only [go_sem, Nat.reduceEqDiff, List.length_map]
  cases h0 : ((a.length : Int) != b.length)
  rotate_left
  · have : ¬ a = b := fun e => by rw [e] at h0; simp at h0
    simp only [go_sem]
    exact finL_ret [] ⟨rfl, rfl, rfl, rfl, _, rfl, res_mk (by rw [decide_eq_false this]; rfl)⟩
  have hab : a.length = b.length := by have := bne_eq_false_iff_eq.1 h0; omega
  simp only [go_sem]
  refine awpL_loopK a.length (fun j st => (∀ i < j, a[i]? = b[i]?) ∧ st = { env := [(5, .t (vi j)), (0, .t (.slice 1 (a.map vi))), (1, .t (.slice 1 (b.map vi)))], σ := [] }) ⟨_, Sub.gc [] [5, 0, 1] rfl rfl, by simp, rfl⟩ ?_
  rintro j st hj ⟨he, rfl⟩
  simp only [go_sem, Nat.reduceEqDiff, List.length_map]
  cases g : decide ((j : Int) < a.length)
  · have hje : j = a.length := by have := of_decide_eq_false g; omega
    have : a = b := List.ext_getElem? fun i => by
      by_cases c : i < a.length
      · exact he i (by omega)
      · rw [List.getElem?_eq_none (by omega), List.getElem?_eq_none (by omega)]
    simp only [go_sem]
    exact finL_ret [] ⟨rfl, rfl, rfl, rfl, _, rfl, res_mk (by rw [decide_eq_true this]; rfl)⟩
  have hjl : j < a.length := by have := of_decide_eq_true g; omega
  have hj0 : ((j : Int) < 0) = False := eq_false (by omega)
  have hw : IntKind.i64.wrap ((j : Int) + 1) = ((j + 1 : Nat) : Int) := by rw [wrap_id (by omega) (by omega)]; omega
  have hx : a[j]? = some a[j] := List.getElem?_eq_getElem hjl
  have hy : b[j]? = some b[j] := List.getElem?_eq_getElem (by omega)
  generalize a[j] = x at *
  generalize b[j] = y at *
  simp only [go_sem, Nat.reduceEqDiff, List.getElem?_map, hx, hy, Option.map_some]
  cases h1 : (x != y)
  · have : x = y := bne_eq_false_iff_eq.1 h1
    simp only [go_sem, Nat.reduceEqDiff, hw]
    refine ⟨hjl, _, Sub.gc [] [5, 0, 1] rfl rfl, fun i hi => ?_, rfl⟩
    by_cases c : i < j
    · exact he i c
    · rw [show i = j by omega, hx, hy, this]
  · have : ¬ a = b := fun e => by rw [e, hy] at hx; cases hx; simp at h1
    simp only [go_sem]
    exact finL_ret [] ⟨rfl, rfl, rfl, rfl, _, rfl, res_mk (by rw [decide_eq_false this]; rfl)⟩
theorem spans_ok (a b : List (Int × Int)) (hl : a.length < 9223372036854775808) : ACall Tryz.prog 14 [.t (.slice 2 (tSps a)), .t (.slice 2 (tSps b))] [] (ret (vb (decide (a = b)))) := by
  refine ACall.walk k14 ?_
  unfold c14
  unfold tSps tSp
  simp only [go_sem, Nat.reduceEqDiff, List.length_map]
  cases h0 : ((a.length : Int) != b.length)
  rotate_left
  · have : ¬ a = b := fun e => by rw [e] at h0; simp at h0
    simp only [go_sem]
    exact finL_ret [] ⟨rfl, rfl, rfl, rfl, _, rfl, res_mk (by rw [decide_eq_false this]; rfl)⟩
  have hab : a.length = b.length := by have := bne_eq_false_iff_eq.1 h0; omega
  simp only [go_sem]
  refine awpL_loopK a.length (fun j st => (∀ i < j, a[i]? = b[i]?) ∧ st = { env := [(5, .t (vi j)), (0, .t (.slice 2 (tSps a))), (1, .t (.slice 2 (tSps b)))], σ := [] }) ⟨_, Sub.gc [] [5, 0, 1] rfl rfl, by simp, rfl⟩ ?_
  rintro j st hj ⟨he, rfl⟩
  unfold tSps tSp
  simp only [go_sem, Nat.reduceEqDiff, List.length_map]
  cases g : decide ((j : Int) < a.length)
  · have hje : j = a.length := by have := of_decide_eq_false g; omega
    have : a = b := List.ext_getElem? fun i => by
      by_cases c : i < a.length
      · exact he i (by omega)
      · rw [List.getElem?_eq_none (by omega), List.getElem?_eq_none (by omega)]
    simp only [go_sem]
    exact finL_ret [] ⟨rfl, rfl, rfl, rfl, _, rfl, res_mk (by rw [decide_eq_true this]; rfl)⟩
  have hjl : j < a.length := by have := of_decide_eq_true g; omega
  have hj0 : ((j : Int) < 0) = False := eq_false (by omega)
  have hw : IntKind.i64.wrap ((j : Int) + 1) = ((j + 1 : Nat) : Int) := by rw [wrap_id (by omega) (by omega)]; omega
  have hx : a[j]? = some a[j] := List.getElem?_eq_getElem hjl
  have hy : b[j]? = some b[j] := List.getElem?_eq_getElem (by omega)
  generalize a[j] = x at *
  generalize b[j] = y at *
  obtain ⟨x1, x2⟩ := x
  obtain ⟨y1, y2⟩ := y
  have k1 : toKey (some [some .i64, some .i64], none) (.t (.agg [vi x1, vi x2])) = some [x1, x2] := by simp [toKey, cellKeys, cellKey]
  have k2 : toKey (some [some .i64, some .i64], none) (.t (.agg [vi y1, vi y2])) = some [y1, y2] := by simp [toKey, cellKeys, cellKey]
  have k3 : kEq [some .i64, some .i64] [x1, x2] [y1, y2] = ((x1 == y1) && (x2 == y2)) := by simp [kEq, cellEq]
  simp only [go_sem, Nat.reduceEqDiff, Nat.reduceAdd, List.getElem?_map, hx, hy, Option.map_some, k1, k2, k3]
  cases h1 : ((x1 == y1) && (x2 == y2))
  · have : ¬ a = b := fun e => by rw [e, hy] at hx; cases hx; simp at h1
    simp only [go_sem, Bool.not_false]
    exact finL_ret [] ⟨rfl, rfl, rfl, rfl, _, rfl, res_mk (by rw [decide_eq_false this]; rfl)⟩
  · have e : (x1, x2) = (y1, y2) := by
      simp only [Bool.and_eq_true, beq_iff_eq] at h1
      rw [h1.1, h1.2]
    simp only [go_sem, Nat.reduceEqDiff, Bool.not_true, hw]
    refine ⟨hjl, _, Sub.gc [] [5, 0, 1] rfl rfl, fun i hi => ?_, rfl⟩
    by_cases c : i < j
    · exact he i c
    · rw [show i = j by omega, hx, hy, e]

/-! ### Rounded down -/
end Go.Proofs.YtnmmhkkmejbckaaGreatDoor

/- The document's examples of watches; the statements' first check. -/
namespace Go.Proofs.YtnmmhkkmejbckaaGreatDoor
open Go Go.Ab

def smp (third : Bool) (most : Int) : Wa := { os := [⟨480, 0, 0, 3⟩, ⟨480, 6, 7, 1⟩, ⟨600, -5, -5, 6⟩], fs := [⟨0, 600, 600, 612, false⟩, ⟨1, 660, 655, most, false⟩] ++ if third then [⟨2, 760, 10, 11, true⟩] else [] }
set_option maxRecDepth 8000 in
set_option maxHeartbeats 4000000 in
theorem sample_ok (third : Bool) (most : Int) : ACall Tryz.prog 27 [.t (vb third), .t (vi most)] [] (res (.ret (.t (tWa (smp third most))))) := by
  refine ACall.walk k27 ?_
  unfold c27
  cases third
  · simp only [go_sem, Nat.reduceEqDiff, Nat.reduceAdd, Nat.reduceSub, Nat.reduceMul, Nat.reduceLT, Nat.reduceLeDiff, Nat.reduceMod, Nat.reduceDiv, Int.reduceToNat, Int.reduceLT, Int.reduceLE, Bool.not_true, Bool.not_false, reduceIte, Int.reduceEq, Int.reduceBEq, Int.reduceBNe, Int.reduceGT, Int.reduceGE, Int.reduceNeg, Int.reduceAdd, Int.reduceSub, Nat.reduceBEq, decide_true, decide_false, undef, beq_self_eq_true, bne_self_eq_false, Bool.and_true, Bool.true_and, Bool.and_false, Bool.false_and, Bool.or_true, Bool.true_or, Bool.or_false, Bool.false_or]
    repeat' (first | refine ACallL.quiet1 (owner_ok _ _ _ _) rfl rfl rfl ?_ | refine ACallL.quiet1 (find_ok _ _ _ _ _) rfl rfl rfl ?_ | refine ⟨by decide, ?_⟩ | simp only [go_sem, Nat.reduceEqDiff, Nat.reduceAdd, Nat.reduceSub, Nat.reduceMul, Nat.reduceLT, Nat.reduceLeDiff, Nat.reduceMod, Nat.reduceDiv, Int.reduceToNat, Int.reduceLT, Int.reduceLE, Bool.not_true, Bool.not_false, reduceIte, Int.reduceEq, Int.reduceBEq, Int.reduceBNe, Int.reduceGT, Int.reduceGE, Int.reduceNeg, Int.reduceAdd, Int.reduceSub, Nat.reduceBEq, decide_true, decide_false, undef, beq_self_eq_true, bne_self_eq_false, Bool.and_true, Bool.true_and, Bool.and_false, Bool.false_and, Bool.or_true, Bool.true_or, Bool.or_false, Bool.false_or])
    exact finL_ret [] ⟨rfl, rfl, rfl, rfl, _, rfl, res_mk rfl⟩
  · simp only [go_sem, Nat.reduceEqDiff, Nat.reduceAdd, Nat.reduceSub, Nat.reduceMul, Nat.reduceLT, Nat.reduceLeDiff, Nat.reduceMod, Nat.reduceDiv, Int.reduceToNat, Int.reduceLT, Int.reduceLE, Bool.not_true, Bool.not_false, reduceIte, Int.reduceEq, Int.reduceBEq, Int.reduceBNe, Int.reduceGT, Int.reduceGE, Int.reduceNeg, Int.reduceAdd, Int.reduceSub, Nat.reduceBEq, decide_true, decide_false, undef, beq_self_eq_true, bne_self_eq_false, Bool.and_true, Bool.true_and, Bool.and_false, Bool.false_and, Bool.or_true, Bool.true_or, Bool.or_false, Bool.false_or]
    repeat' (first | refine ACallL.quiet1 (owner_ok _ _ _ _) rfl rfl rfl ?_ | refine ACallL.quiet1 (find_ok _ _ _ _ _) rfl rfl rfl ?_ | refine ⟨by decide, ?_⟩ | simp only [go_sem, Nat.reduceEqDiff, Nat.reduceAdd, Nat.reduceSub, Nat.reduceMul, Nat.reduceLT, Nat.reduceLeDiff, Nat.reduceMod, Nat.reduceDiv, Int.reduceToNat, Int.reduceLT, Int.reduceLE, Bool.not_true, Bool.not_false, reduceIte, Int.reduceEq, Int.reduceBEq, Int.reduceBNe, Int.reduceGT, Int.reduceGE, Int.reduceNeg, Int.reduceAdd, Int.reduceSub, Nat.reduceBEq, decide_true, decide_false, undef, beq_self_eq_true, bne_self_eq_false, Bool.and_true, Bool.true_and, Bool.and_false, Bool.false_and, Bool.or_true, Bool.true_or, Bool.or_false, Bool.false_or])
    exact finL_ret [] ⟨rfl, rfl, rfl, rfl, _, rfl, res_mk rfl⟩
theorem x1 : specShows (smp false 660) 1 600 = ([612, 614], 0) := by decide +kernel
theorem x2 : specFits (smp false 660) 0 = (3, 0) := by decide +kernel
theorem x3 : specStopped (smp true 660) 2 2 = ([(742, 743)], 0) := by decide +kernel
theorem x4 : specCount (smp false 660) = (3, 0) := by decide +kernel
theorem x5 : specCan (smp true 660) 0 = (2, 0) := by decide +kernel
theorem x6 : specWhere (smp false 660) 0 = (3, true, 0) := by decide +kernel
theorem x7 : specSure (smp true 660) = ([1, 0, 2], 0) := by decide +kernel
theorem x8 : specClash (smp true 656) = (6, 0) := by decide +kernel
theorem smp_lens (t : Bool) (m : Int) : Lens (smp t m) := ⟨by show 3 < _; decide, by cases t; (show 2 < _; decide); (show 3 < _; decide)⟩
set_option maxRecDepth 8000 in
set_option maxHeartbeats 4000000 in
theorem alive_ok : ACall Tryz.prog 6 [] [] (ret (vb true)) := by
  have hs1 := sample_ok false 660
  have hs2 := sample_ok true 660
  have hs3 := sample_ok true 656
  have h1 := Shows_ok (smp false 660) 1 600 (smp_lens _ _)
  have h2 := Fits_ok (smp false 660) 0 (smp_lens _ _)
  have h3 := Stopped_ok (smp true 660) 2 2 (smp_lens _ _)
  have h4 := Count_ok (smp false 660) (smp_lens _ _)
  have h5 := Can_ok (smp true 660) 0 (smp_lens _ _)
  have h6 := Where_ok (smp false 660) 0 (smp_lens _ _)
  have h7 := Sure_ok (smp true 660) (smp_lens _ _)
  have h8 := Clash_ok (smp true 656) (smp_lens _ _)
  rw [x1] at h1
  rw [x2] at h2
  rw [x3] at h3
  rw [x4] at h4
  rw [x5] at h5
  rw [x6] at h6
  rw [x7] at h7
  rw [x8] at h8
  have i1 := ints_ok [612, 614] [612, 614] (by decide)
  have i2 := ints_ok [1, 0, 2] [1, 0, 2] (by decide)
  have i3 := spans_ok [(742, 743)] [(742, 743)] (by decide)
  have i4 := span2_ok 742 743
  rw [decide_eq_true rfl] at i1 i2 i3
  unfold tWa at h1 h2 h3 h4 h5 h6 h7 h8 hs1 hs2 hs3
  generalize wa2 (smp false 660) = A at *
  generalize wa2 (smp true 660) = B at *
  generalize wa2 (smp true 656) = C at *
  refine ACall.walk k6 ?_
  unfold c6
  simp only [go_sem, Nat.reduceEqDiff, Nat.reduceAdd, Nat.reduceSub, Nat.reduceMul, Nat.reduceLT, Nat.reduceLeDiff, Nat.reduceMod, Nat.reduceDiv, Int.reduceToNat, Int.reduceLT, Int.reduceLE, Bool.not_true, Bool.not_false, reduceIte, Int.reduceEq, Int.reduceBEq, Int.reduceBNe, Int.reduceGT, Int.reduceGE, Int.reduceNeg, Int.reduceAdd, Int.reduceSub, Nat.reduceBEq, decide_true, decide_false, undef, beq_self_eq_true, bne_self_eq_false, Bool.and_true, Bool.true_and, Bool.and_false, Bool.false_and, Bool.or_true, Bool.true_or, Bool.or_false, Bool.false_or]
  refine ACallL.fresh1 hs1 rfl ?_
  simp only [go_sem, Nat.reduceEqDiff, Nat.reduceAdd, Nat.reduceSub, Nat.reduceMul, Nat.reduceLT, Nat.reduceLeDiff, Nat.reduceMod, Nat.reduceDiv, Int.reduceToNat, Int.reduceLT, Int.reduceLE, Bool.not_true, Bool.not_false, reduceIte, Int.reduceEq, Int.reduceBEq, Int.reduceBNe, Int.reduceGT, Int.reduceGE, Int.reduceNeg, Int.reduceAdd, Int.reduceSub, Nat.reduceBEq, decide_true, decide_false, undef, beq_self_eq_true, bne_self_eq_false, Bool.and_true, Bool.true_and, Bool.and_false, Bool.false_and, Bool.or_true, Bool.true_or, Bool.or_false, Bool.false_or]
  refine ACallL.fresh1 h1 rfl ?_
  simp only [go_sem, Nat.reduceEqDiff, Nat.reduceAdd, Nat.reduceSub, Nat.reduceMul, Nat.reduceLT, Nat.reduceLeDiff, Nat.reduceMod, Nat.reduceDiv, Int.reduceToNat, Int.reduceLT, Int.reduceLE, Bool.not_true, Bool.not_false, reduceIte, Int.reduceEq, Int.reduceBEq, Int.reduceBNe, Int.reduceGT, Int.reduceGE, Int.reduceNeg, Int.reduceAdd, Int.reduceSub, Nat.reduceBEq, decide_true, decide_false, undef, beq_self_eq_true, bne_self_eq_false, Bool.and_true, Bool.true_and, Bool.and_false, Bool.false_and, Bool.or_true, Bool.true_or, Bool.or_false, Bool.false_or, lsE]
  refine ACallL.fresh1 hs1 rfl ?_
  simp only [go_sem, Nat.reduceEqDiff, Nat.reduceAdd, Nat.reduceSub, Nat.reduceMul, Nat.reduceLT, Nat.reduceLeDiff, Nat.reduceMod, Nat.reduceDiv, Int.reduceToNat, Int.reduceLT, Int.reduceLE, Bool.not_true, Bool.not_false, reduceIte, Int.reduceEq, Int.reduceBEq, Int.reduceBNe, Int.reduceGT, Int.reduceGE, Int.reduceNeg, Int.reduceAdd, Int.reduceSub, Nat.reduceBEq, decide_true, decide_false, undef, beq_self_eq_true, bne_self_eq_false, Bool.and_true, Bool.true_and, Bool.and_false, Bool.false_and, Bool.or_true, Bool.true_or, Bool.or_false, Bool.false_or]
  refine ACallL.quiet1 h2 rfl rfl rfl ?_
  simp only [go_sem, Nat.reduceEqDiff, Nat.reduceAdd, Nat.reduceSub, Nat.reduceMul, Nat.reduceLT, Nat.reduceLeDiff, Nat.reduceMod, Nat.reduceDiv, Int.reduceToNat, Int.reduceLT, Int.reduceLE, Bool.not_true, Bool.not_false, reduceIte, Int.reduceEq, Int.reduceBEq, Int.reduceBNe, Int.reduceGT, Int.reduceGE, Int.reduceNeg, Int.reduceAdd, Int.reduceSub, Nat.reduceBEq, decide_true, decide_false, undef, beq_self_eq_true, bne_self_eq_false, Bool.and_true, Bool.true_and, Bool.and_false, Bool.false_and, Bool.or_true, Bool.true_or, Bool.or_false, Bool.false_or, oneE]
  refine ACallL.fresh1 hs2 rfl ?_
  simp only [go_sem, Nat.reduceEqDiff, Nat.reduceAdd, Nat.reduceSub, Nat.reduceMul, Nat.reduceLT, Nat.reduceLeDiff, Nat.reduceMod, Nat.reduceDiv, Int.reduceToNat, Int.reduceLT, Int.reduceLE, Bool.not_true, Bool.not_false, reduceIte, Int.reduceEq, Int.reduceBEq, Int.reduceBNe, Int.reduceGT, Int.reduceGE, Int.reduceNeg, Int.reduceAdd, Int.reduceSub, Nat.reduceBEq, decide_true, decide_false, undef, beq_self_eq_true, bne_self_eq_false, Bool.and_true, Bool.true_and, Bool.and_false, Bool.false_and, Bool.or_true, Bool.true_or, Bool.or_false, Bool.false_or]
  refine ACallL.fresh1 h3 rfl ?_
  simp only [go_sem, Nat.reduceEqDiff, Nat.reduceAdd, Nat.reduceSub, Nat.reduceMul, Nat.reduceLT, Nat.reduceLeDiff, Nat.reduceMod, Nat.reduceDiv, Int.reduceToNat, Int.reduceLT, Int.reduceLE, Bool.not_true, Bool.not_false, reduceIte, Int.reduceEq, Int.reduceBEq, Int.reduceBNe, Int.reduceGT, Int.reduceGE, Int.reduceNeg, Int.reduceAdd, Int.reduceSub, Nat.reduceBEq, decide_true, decide_false, undef, beq_self_eq_true, bne_self_eq_false, Bool.and_true, Bool.true_and, Bool.and_false, Bool.false_and, Bool.or_true, Bool.true_or, Bool.or_false, Bool.false_or, spsE]
  refine ACallL.fresh1 hs1 rfl ?_
  simp only [go_sem, Nat.reduceEqDiff, Nat.reduceAdd, Nat.reduceSub, Nat.reduceMul, Nat.reduceLT, Nat.reduceLeDiff, Nat.reduceMod, Nat.reduceDiv, Int.reduceToNat, Int.reduceLT, Int.reduceLE, Bool.not_true, Bool.not_false, reduceIte, Int.reduceEq, Int.reduceBEq, Int.reduceBNe, Int.reduceGT, Int.reduceGE, Int.reduceNeg, Int.reduceAdd, Int.reduceSub, Nat.reduceBEq, decide_true, decide_false, undef, beq_self_eq_true, bne_self_eq_false, Bool.and_true, Bool.true_and, Bool.and_false, Bool.false_and, Bool.or_true, Bool.true_or, Bool.or_false, Bool.false_or]
  refine ACallL.quiet1 h4 rfl rfl rfl ?_
  simp only [go_sem, Nat.reduceEqDiff, Nat.reduceAdd, Nat.reduceSub, Nat.reduceMul, Nat.reduceLT, Nat.reduceLeDiff, Nat.reduceMod, Nat.reduceDiv, Int.reduceToNat, Int.reduceLT, Int.reduceLE, Bool.not_true, Bool.not_false, reduceIte, Int.reduceEq, Int.reduceBEq, Int.reduceBNe, Int.reduceGT, Int.reduceGE, Int.reduceNeg, Int.reduceAdd, Int.reduceSub, Nat.reduceBEq, decide_true, decide_false, undef, beq_self_eq_true, bne_self_eq_false, Bool.and_true, Bool.true_and, Bool.and_false, Bool.false_and, Bool.or_true, Bool.true_or, Bool.or_false, Bool.false_or, oneE]
  refine ACallL.fresh1 hs2 rfl ?_
  simp only [go_sem, Nat.reduceEqDiff, Nat.reduceAdd, Nat.reduceSub, Nat.reduceMul, Nat.reduceLT, Nat.reduceLeDiff, Nat.reduceMod, Nat.reduceDiv, Int.reduceToNat, Int.reduceLT, Int.reduceLE, Bool.not_true, Bool.not_false, reduceIte, Int.reduceEq, Int.reduceBEq, Int.reduceBNe, Int.reduceGT, Int.reduceGE, Int.reduceNeg, Int.reduceAdd, Int.reduceSub, Nat.reduceBEq, decide_true, decide_false, undef, beq_self_eq_true, bne_self_eq_false, Bool.and_true, Bool.true_and, Bool.and_false, Bool.false_and, Bool.or_true, Bool.true_or, Bool.or_false, Bool.false_or]
  refine ACallL.quiet1 h5 rfl rfl rfl ?_
  simp only [go_sem, Nat.reduceEqDiff, Nat.reduceAdd, Nat.reduceSub, Nat.reduceMul, Nat.reduceLT, Nat.reduceLeDiff, Nat.reduceMod, Nat.reduceDiv, Int.reduceToNat, Int.reduceLT, Int.reduceLE, Bool.not_true, Bool.not_false, reduceIte, Int.reduceEq, Int.reduceBEq, Int.reduceBNe, Int.reduceGT, Int.reduceGE, Int.reduceNeg, Int.reduceAdd, Int.reduceSub, Nat.reduceBEq, decide_true, decide_false, undef, beq_self_eq_true, bne_self_eq_false, Bool.and_true, Bool.true_and, Bool.and_false, Bool.false_and, Bool.or_true, Bool.true_or, Bool.or_false, Bool.false_or, oneE]
  refine ACallL.fresh1 hs1 rfl ?_
  simp only [go_sem, Nat.reduceEqDiff, Nat.reduceAdd, Nat.reduceSub, Nat.reduceMul, Nat.reduceLT, Nat.reduceLeDiff, Nat.reduceMod, Nat.reduceDiv, Int.reduceToNat, Int.reduceLT, Int.reduceLE, Bool.not_true, Bool.not_false, reduceIte, Int.reduceEq, Int.reduceBEq, Int.reduceBNe, Int.reduceGT, Int.reduceGE, Int.reduceNeg, Int.reduceAdd, Int.reduceSub, Nat.reduceBEq, decide_true, decide_false, undef, beq_self_eq_true, bne_self_eq_false, Bool.and_true, Bool.true_and, Bool.and_false, Bool.false_and, Bool.or_true, Bool.true_or, Bool.or_false, Bool.false_or]
  refine ACallL.quiet1 h6 rfl rfl rfl ?_
  simp only [go_sem, Nat.reduceEqDiff, Nat.reduceAdd, Nat.reduceSub, Nat.reduceMul, Nat.reduceLT, Nat.reduceLeDiff, Nat.reduceMod, Nat.reduceDiv, Int.reduceToNat, Int.reduceLT, Int.reduceLE, Bool.not_true, Bool.not_false, reduceIte, Int.reduceEq, Int.reduceBEq, Int.reduceBNe, Int.reduceGT, Int.reduceGE, Int.reduceNeg, Int.reduceAdd, Int.reduceSub, Nat.reduceBEq, decide_true, decide_false, undef, beq_self_eq_true, bne_self_eq_false, Bool.and_true, Bool.true_and, Bool.and_false, Bool.false_and, Bool.or_true, Bool.true_or, Bool.or_false, Bool.false_or, whrE]
  refine ACallL.fresh1 hs2 rfl ?_
  simp only [go_sem, Nat.reduceEqDiff, Nat.reduceAdd, Nat.reduceSub, Nat.reduceMul, Nat.reduceLT, Nat.reduceLeDiff, Nat.reduceMod, Nat.reduceDiv, Int.reduceToNat, Int.reduceLT, Int.reduceLE, Bool.not_true, Bool.not_false, reduceIte, Int.reduceEq, Int.reduceBEq, Int.reduceBNe, Int.reduceGT, Int.reduceGE, Int.reduceNeg, Int.reduceAdd, Int.reduceSub, Nat.reduceBEq, decide_true, decide_false, undef, beq_self_eq_true, bne_self_eq_false, Bool.and_true, Bool.true_and, Bool.and_false, Bool.false_and, Bool.or_true, Bool.true_or, Bool.or_false, Bool.false_or]
  refine ACallL.fresh1 h7 rfl ?_
  simp only [go_sem, Nat.reduceEqDiff, Nat.reduceAdd, Nat.reduceSub, Nat.reduceMul, Nat.reduceLT, Nat.reduceLeDiff, Nat.reduceMod, Nat.reduceDiv, Int.reduceToNat, Int.reduceLT, Int.reduceLE, Bool.not_true, Bool.not_false, reduceIte, Int.reduceEq, Int.reduceBEq, Int.reduceBNe, Int.reduceGT, Int.reduceGE, Int.reduceNeg, Int.reduceAdd, Int.reduceSub, Nat.reduceBEq, decide_true, decide_false, undef, beq_self_eq_true, bne_self_eq_false, Bool.and_true, Bool.true_and, Bool.and_false, Bool.false_and, Bool.or_true, Bool.true_or, Bool.or_false, Bool.false_or, lsE]
  refine ACallL.fresh1 hs3 rfl ?_
  simp only [go_sem, Nat.reduceEqDiff, Nat.reduceAdd, Nat.reduceSub, Nat.reduceMul, Nat.reduceLT, Nat.reduceLeDiff, Nat.reduceMod, Nat.reduceDiv, Int.reduceToNat, Int.reduceLT, Int.reduceLE, Bool.not_true, Bool.not_false, reduceIte, Int.reduceEq, Int.reduceBEq, Int.reduceBNe, Int.reduceGT, Int.reduceGE, Int.reduceNeg, Int.reduceAdd, Int.reduceSub, Nat.reduceBEq, decide_true, decide_false, undef, beq_self_eq_true, bne_self_eq_false, Bool.and_true, Bool.true_and, Bool.and_false, Bool.false_and, Bool.or_true, Bool.true_or, Bool.or_false, Bool.false_or]
  refine ACallL.quiet1 h8 rfl rfl rfl ?_
  simp only [go_sem, Nat.reduceEqDiff, Nat.reduceAdd, Nat.reduceSub, Nat.reduceMul, Nat.reduceLT, Nat.reduceLeDiff, Nat.reduceMod, Nat.reduceDiv, Int.reduceToNat, Int.reduceLT, Int.reduceLE, Bool.not_true, Bool.not_false, reduceIte, Int.reduceEq, Int.reduceBEq, Int.reduceBNe, Int.reduceGT, Int.reduceGE, Int.reduceNeg, Int.reduceAdd, Int.reduceSub, Nat.reduceBEq, decide_true, decide_false, undef, beq_self_eq_true, bne_self_eq_false, Bool.and_true, Bool.true_and, Bool.and_false, Bool.false_and, Bool.or_true, Bool.true_or, Bool.or_false, Bool.false_or, oneE]
  have e1 : tI [612, 614] = .slice 1 [vi 612, vi 614] := rfl
  have e2 : tI [1, 0, 2] = .slice 1 [vi 1, vi 0, vi 2] := rfl
  have e3 : tSps [(742, 743)] = [.agg [vi 742, vi 743]] := rfl
  rw [e1] at i1
  rw [e2] at i2
  rw [e3] at i3
  unfold tSp at i4
  refine ACallL.quiet1 i1 rfl rfl rfl ?_
  simp only [go_sem, Nat.reduceEqDiff, Nat.reduceAdd, Nat.reduceSub, Nat.reduceMul, Nat.reduceLT, Nat.reduceLeDiff, Nat.reduceMod, Nat.reduceDiv, Int.reduceToNat, Int.reduceLT, Int.reduceLE, Bool.not_true, Bool.not_false, reduceIte, Int.reduceEq, Int.reduceBEq, Int.reduceBNe, Int.reduceGT, Int.reduceGE, Int.reduceNeg, Int.reduceAdd, Int.reduceSub, Nat.reduceBEq, decide_true, decide_false, undef, beq_self_eq_true, bne_self_eq_false, Bool.and_true, Bool.true_and, Bool.and_false, Bool.false_and, Bool.or_true, Bool.true_or, Bool.or_false, Bool.false_or]
  refine ACallL.quiet1 i4 rfl rfl rfl ?_
  simp only [go_sem, Nat.reduceEqDiff, Nat.reduceAdd, Nat.reduceSub, Nat.reduceMul, Nat.reduceLT, Nat.reduceLeDiff, Nat.reduceMod, Nat.reduceDiv, Int.reduceToNat, Int.reduceLT, Int.reduceLE, Bool.not_true, Bool.not_false, reduceIte, Int.reduceEq, Int.reduceBEq, Int.reduceBNe, Int.reduceGT, Int.reduceGE, Int.reduceNeg, Int.reduceAdd, Int.reduceSub, Nat.reduceBEq, decide_true, decide_false, undef, beq_self_eq_true, bne_self_eq_false, Bool.and_true, Bool.true_and, Bool.and_false, Bool.false_and, Bool.or_true, Bool.true_or, Bool.or_false, Bool.false_or]
  refine ACallL.quiet1 i3 rfl rfl rfl ?_
  simp only [go_sem, Nat.reduceEqDiff, Nat.reduceAdd, Nat.reduceSub, Nat.reduceMul, Nat.reduceLT, Nat.reduceLeDiff, Nat.reduceMod, Nat.reduceDiv, Int.reduceToNat, Int.reduceLT, Int.reduceLE, Bool.not_true, Bool.not_false, reduceIte, Int.reduceEq, Int.reduceBEq, Int.reduceBNe, Int.reduceGT, Int.reduceGE, Int.reduceNeg, Int.reduceAdd, Int.reduceSub, Nat.reduceBEq, decide_true, decide_false, undef, beq_self_eq_true, bne_self_eq_false, Bool.and_true, Bool.true_and, Bool.and_false, Bool.false_and, Bool.or_true, Bool.true_or, Bool.or_false, Bool.false_or]
  refine ACallL.quiet1 i2 rfl rfl rfl ?_
  simp only [go_sem, Nat.reduceEqDiff, Nat.reduceAdd, Nat.reduceSub, Nat.reduceMul, Nat.reduceLT, Nat.reduceLeDiff, Nat.reduceMod, Nat.reduceDiv, Int.reduceToNat, Int.reduceLT, Int.reduceLE, Bool.not_true, Bool.not_false, reduceIte, Int.reduceEq, Int.reduceBEq, Int.reduceBNe, Int.reduceGT, Int.reduceGE, Int.reduceNeg, Int.reduceAdd, Int.reduceSub, Nat.reduceBEq, decide_true, decide_false, undef, beq_self_eq_true, bne_self_eq_false, Bool.and_true, Bool.true_and, Bool.and_false, Bool.false_and, Bool.or_true, Bool.true_or, Bool.or_false, Bool.false_or]
  exact finL_ret [] ⟨rfl, rfl, rfl, rfl, _, rfl, res_mk rfl⟩
end Go.Proofs.YtnmmhkkmejbckaaGreatDoor
