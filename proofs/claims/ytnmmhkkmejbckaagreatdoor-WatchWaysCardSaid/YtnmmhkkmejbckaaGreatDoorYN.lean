/- Proved here: laws that the statements need (WzC2r, WyA). No conditions but those that each law states. -/
import Derived.Test.YtnmmhkkmejbckaaGreatDoorFL
import Derived.Test.YtnmmhkkmejbckaaGreatDoorFP
import Derived.Test.YtnmmhkkmejbckaaGreatDoorProg
import Derived.Test.YtnmmhkkmejbckaaGreatDoorYL
import Derived.Test.YtnmmhkkmejbckaaGreatDoorYG

set_option linter.unusedSimpArgs false
set_option linter.unusedVariables false

/- Compiled code of functions, printed by program; each is checked to be the program's. No conditions. -/
namespace Go.Proofs.YtnmmhkkmejbckaaGreatDoor
open Go Go.Ab
/-- dipworks/dipworksref07.Shows -/
def c8 : AC :=
 .seq (.reg [⟨(some 3), none, .box (.tmp 0)⟩,
 ⟨(some 6), none, .mov (.lit (.slice none 0 0))⟩,
 ⟨(some 7), none, .mov (.lit (.int .i64 0))⟩])
 (.seq (.draw (.step ⟨(some 12), none, .load true 2 (.tmp 3)⟩ (
 .step ⟨(some 13), none, .load true 2 (.tmp 3)⟩ (
 .step ⟨(some 14), none, .mov (.tmp 1)⟩ (
 .ev ⟨(some 15), none, .call (.fn 39) [(.tmp 13), (.tmp 14)]⟩ [⟨(some 12), none, .load true 2 (.tmp 3)⟩] (
 .step ⟨(some 16), none, .mov (.tmp 15)⟩ (
 .step ⟨(some 17), (some (16, true)), .mov (.tmp 2)⟩ (
 .ev ⟨(some 18), (some (16, true)), .call (.fn 40) [(.tmp 17)]⟩ [⟨(some 13), none, .load true 2 (.tmp 3)⟩, ⟨(some 12), none, .load true 2 (.tmp 3)⟩] (
 .step ⟨(some 19), none, .pick (.tmp 16) (.tmp 18) (.lit (.bool false))⟩ (
 .ev ⟨(some 20), none, .call (.fn 38) [(.tmp 12), (.tmp 19)]⟩ [⟨(some 13), none, .load true 2 (.tmp 3)⟩] (
 .step ⟨(some 8), none, .mov (.tmp 20)⟩ (
 .done))
 (.stop)))
 (.stop))))
 (.stop))))))
 (.seq (.seq (.reg [⟨(some 21), none, .mov (.tmp 8)⟩,
 ⟨(some 22), none, .bin .neq (.tmp 21) (.lit (.int .i64 0))⟩])
 (.cond (.tmp 22) (.seq (.reg [⟨(some 23), none, .mov (.tmp 8)⟩,
 ⟨(some 6), none, .mov (.lit (.slice none 0 0))⟩,
 ⟨(some 7), none, .mov (.tmp 23)⟩])
 (.ret))
 (.skip)))
 (.seq (.reg [⟨(some 24), none, .faddr 0 (.tmp 3)⟩,
 ⟨(some 25), none, .load false 1 (.tmp 24)⟩,
 ⟨(some 26), none, .mov (.tmp 1)⟩,
 ⟨(some 27), none, .iaddr 4 (.tmp 25) (.tmp 26)⟩,
 ⟨(some 28), none, .load true 4 (.tmp 27)⟩,
 ⟨(some 9), none, .alloc [(.int .i64 0), (.int .i64 0), (.int .i64 0), (.int .i64 0)]⟩,
 ⟨none, none, .store 4 (.tmp 9) (.tmp 28)⟩])
 (.seq (.seq (.reg [⟨(some 29), none, .mov (.tmp 2)⟩,
 ⟨(some 30), none, .faddr 0 (.tmp 9)⟩,
 ⟨(some 31), none, .load false 1 (.tmp 30)⟩,
 ⟨(some 32), none, .bin .lss (.tmp 29) (.tmp 31)⟩])
 (.cond (.tmp 32) (.seq (.reg [⟨(some 6), none, .mov (.lit (.slice none 0 0))⟩,
 ⟨(some 7), none, .mov (.lit (.int .i64 11))⟩])
 (.ret))
 (.skip)))
 (.seq (.reg [⟨(some 10), none, .mov (.lit (.slice none 0 0))⟩])
 (.seq (.seq (.reg [⟨(some 11), none, .mov (.lit (.int .i64 0))⟩])
 (.block 0 (.loop (.seq (.seq (.reg [⟨(some 33), none, .mov (.tmp 11)⟩,
 ⟨(some 34), none, .bin .lss (.tmp 33) (.lit (.int .i64 720))⟩])
 (.cond (.tmp 34) (.skip)
 (.exit 0)))
 (.seq (.block 1 (.seq (.reg [⟨(some 37), none, .load true 4 (.tmp 9)⟩,
 ⟨(some 38), none, .mov (.tmp 2)⟩,
 ⟨(some 39), none, .mov (.tmp 11)⟩,
 ⟨(some 40), none, .mov (.tmp 11)⟩,
 ⟨(some 41), none, .build [(.int .i64 0), (.int .i64 0)] [(0, 1, (.tmp 39)), (1, 1, (.tmp 40))]⟩,
 ⟨(some 42), none, .call (.fn 41) [(.tmp 37), (.tmp 38), (.tmp 41)]⟩])
 (.cond (.tmp 42) (.reg [⟨(some 43), none, .mov (.tmp 10)⟩,
 ⟨(some 44), none, .mov (.tmp 11)⟩,
 ⟨(some 45), none, .bslice 1 (.int .i64 0) 1 [(0, (.tmp 44))]⟩,
 ⟨(some 46), none, .app 1 8 (.tmp 43) (.tmp 45)⟩,
 ⟨(some 10), none, .mov (.tmp 46)⟩])
 (.skip))))
 (.reg [⟨(some 35), none, .mov (.tmp 11)⟩,
 ⟨(some 36), none, .bin .add (.tmp 35) (.lit (.int .i64 1))⟩,
 ⟨(some 11), none, .mov (.tmp 36)⟩]))))))
 (.seq (.reg [⟨(some 47), none, .mov (.tmp 10)⟩,
 ⟨(some 6), none, .mov (.tmp 47)⟩,
 ⟨(some 7), none, .mov (.lit (.int .i64 0))⟩])
 (.ret))))))))
theorem k8 : FnC Tryz.prog 8 48 [] [] [.tmp 6, .tmp 7] c8 3 := ⟨Tryz.f8, _, Tryz.func8, rfl, by decide, rfl, by decide, by kernel_rfl, by kernel_rfl⟩
/-- dipworks/dipworksref07.Fits -/
def c10 : AC :=
 .seq (.reg [⟨(some 2), none, .box (.tmp 0)⟩,
 ⟨(some 4), none, .mov (.lit (.int .i64 0))⟩,
 ⟨(some 5), none, .mov (.lit (.int .i64 0))⟩])
 (.seq (.draw (.step ⟨(some 9), none, .load true 2 (.tmp 2)⟩ (
 .step ⟨(some 10), none, .load true 2 (.tmp 2)⟩ (
 .step ⟨(some 11), none, .mov (.tmp 1)⟩ (
 .ev ⟨(some 12), none, .call (.fn 44) [(.tmp 10), (.tmp 11)]⟩ [⟨(some 9), none, .load true 2 (.tmp 2)⟩] (
 .ev ⟨(some 13), none, .call (.fn 38) [(.tmp 9), (.tmp 12)]⟩ [⟨(some 10), none, .load true 2 (.tmp 2)⟩] (
 .step ⟨(some 6), none, .mov (.tmp 13)⟩ (
 .done))
 (.stop))
 (.stop))))))
 (.seq (.seq (.reg [⟨(some 14), none, .mov (.tmp 6)⟩,
 ⟨(some 15), none, .bin .neq (.tmp 14) (.lit (.int .i64 0))⟩])
 (.cond (.tmp 15) (.seq (.reg [⟨(some 16), none, .mov (.tmp 6)⟩,
 ⟨(some 4), none, .mov (.lit (.int .i64 0))⟩,
 ⟨(some 5), none, .mov (.tmp 16)⟩])
 (.ret))
 (.skip)))
 (.seq (.reg [⟨(some 7), none, .mov (.lit (.int .i64 0))⟩])
 (.seq (.seq (.reg [⟨(some 8), none, .mov (.lit (.int .i64 0))⟩])
 (.block 0 (.loop (.seq (.seq (.reg [⟨(some 17), none, .mov (.tmp 8)⟩,
 ⟨(some 18), none, .faddr 0 (.tmp 2)⟩,
 ⟨(some 19), none, .load false 1 (.tmp 18)⟩,
 ⟨(some 20), none, .len (.tmp 19)⟩,
 ⟨(some 21), none, .bin .lss (.tmp 17) (.tmp 20)⟩])
 (.cond (.tmp 21) (.skip)
 (.exit 0)))
 (.seq (.block 1 (.seq (.reg [⟨(some 24), none, .load true 2 (.tmp 2)⟩,
 ⟨(some 25), none, .mov (.tmp 1)⟩,
 ⟨(some 26), none, .mov (.tmp 8)⟩,
 ⟨(some 27), none, .call (.fn 45) [(.tmp 24), (.tmp 25), (.tmp 26)]⟩])
 (.cond (.tmp 27) (.reg [⟨(some 28), none, .mov (.tmp 7)⟩,
 ⟨(some 29), none, .mov (.tmp 8)⟩,
 ⟨(some 30), none, .call (.fn 46) [(.tmp 29)]⟩,
 ⟨(some 31), none, .bin .add (.tmp 28) (.tmp 30)⟩,
 ⟨(some 7), none, .mov (.tmp 31)⟩])
 (.skip))))
 (.reg [⟨(some 22), none, .mov (.tmp 8)⟩,
 ⟨(some 23), none, .bin .add (.tmp 22) (.lit (.int .i64 1))⟩,
 ⟨(some 8), none, .mov (.tmp 23)⟩]))))))
 (.seq (.reg [⟨(some 32), none, .mov (.tmp 7)⟩,
 ⟨(some 4), none, .mov (.tmp 32)⟩,
 ⟨(some 5), none, .mov (.lit (.int .i64 0))⟩])
 (.ret))))))
theorem k10 : FnC Tryz.prog 10 33 [] [] [.tmp 4, .tmp 5] c10 2 := ⟨Tryz.f10, _, Tryz.func10, rfl, by decide, rfl, by decide, by kernel_rfl, by kernel_rfl⟩
/-- dipworks/dipworksref07.Stopped -/
def c12 : AC :=
 .seq (.reg [⟨(some 3), none, .box (.tmp 0)⟩,
 ⟨(some 6), none, .mov (.lit (.slice none 0 0))⟩,
 ⟨(some 7), none, .mov (.lit (.int .i64 0))⟩])
 (.seq (.draw (.step ⟨(some 13), none, .load true 2 (.tmp 3)⟩ (
 .step ⟨(some 14), none, .load true 2 (.tmp 3)⟩ (
 .step ⟨(some 15), none, .mov (.tmp 1)⟩ (
 .ev ⟨(some 16), none, .call (.fn 44) [(.tmp 14), (.tmp 15)]⟩ [⟨(some 13), none, .load true 2 (.tmp 3)⟩] (
 .step ⟨(some 17), none, .mov (.tmp 16)⟩ (
 .step ⟨(some 18), (some (17, true)), .load true 2 (.tmp 3)⟩ (
 .step ⟨(some 19), (some (17, true)), .mov (.tmp 2)⟩ (
 .ev ⟨(some 20), (some (17, true)), .call (.fn 39) [(.tmp 18), (.tmp 19)]⟩ [⟨(some 14), none, .load true 2 (.tmp 3)⟩, ⟨(some 13), none, .load true 2 (.tmp 3)⟩] (
 .step ⟨(some 21), none, .pick (.tmp 17) (.tmp 20) (.lit (.bool false))⟩ (
 .ev ⟨(some 22), none, .call (.fn 38) [(.tmp 13), (.tmp 21)]⟩ [⟨(some 18), (some (17, true)), .load true 2 (.tmp 3)⟩, ⟨(some 14), none, .load true 2 (.tmp 3)⟩] (
 .step ⟨(some 8), none, .mov (.tmp 22)⟩ (
 .done))
 (.stop)))
 (.stop)))))
 (.stop))))))
 (.seq (.seq (.reg [⟨(some 23), none, .mov (.tmp 8)⟩,
 ⟨(some 24), none, .bin .neq (.tmp 23) (.lit (.int .i64 0))⟩])
 (.cond (.tmp 24) (.seq (.reg [⟨(some 25), none, .mov (.tmp 8)⟩,
 ⟨(some 6), none, .mov (.lit (.slice none 0 0))⟩,
 ⟨(some 7), none, .mov (.tmp 25)⟩])
 (.ret))
 (.skip)))
 (.seq (.seq (.reg [⟨(some 26), none, .faddr 1 (.tmp 3)⟩,
 ⟨(some 27), none, .load false 1 (.tmp 26)⟩,
 ⟨(some 28), none, .mov (.tmp 1)⟩,
 ⟨(some 29), none, .iaddr 5 (.tmp 27) (.tmp 28)⟩,
 ⟨(some 30), none, .faddr 4 (.tmp 29)⟩,
 ⟨(some 31), none, .load false 1 (.tmp 30)⟩,
 ⟨(some 32), none, .un .not (.tmp 31)⟩])
 (.cond (.tmp 32) (.seq (.reg [⟨(some 6), none, .mov (.lit (.slice none 0 0))⟩,
 ⟨(some 7), none, .mov (.lit (.int .i64 11))⟩])
 (.ret))
 (.skip)))
 (.seq (.seq (.reg [⟨(some 33), none, .load true 2 (.tmp 3)⟩,
 ⟨(some 34), none, .mov (.tmp 1)⟩,
 ⟨(some 35), none, .mov (.tmp 2)⟩,
 ⟨(some 36), none, .call (.fn 45) [(.tmp 33), (.tmp 34), (.tmp 35)]⟩,
 ⟨(some 37), none, .un .not (.tmp 36)⟩])
 (.cond (.tmp 37) (.seq (.reg [⟨(some 6), none, .mov (.lit (.slice none 0 0))⟩,
 ⟨(some 7), none, .mov (.lit (.int .i64 4))⟩])
 (.ret))
 (.skip)))
 (.seq (.reg [⟨(some 9), none, .mov (.lit (.slice none 0 0))⟩])
 (.seq (.draw (.step ⟨(some 38), none, .faddr 0 (.tmp 3)⟩ (
 .step ⟨(some 39), none, .load false 1 (.tmp 38)⟩ (
 .step ⟨(some 40), none, .mov (.tmp 2)⟩ (
 .step ⟨(some 41), none, .iaddr 4 (.tmp 39) (.tmp 40)⟩ (
 .step ⟨(some 42), none, .load true 4 (.tmp 41)⟩ (
 .step ⟨(some 43), none, .faddr 1 (.tmp 3)⟩ (
 .step ⟨(some 44), none, .load false 1 (.tmp 43)⟩ (
 .step ⟨(some 45), none, .mov (.tmp 1)⟩ (
 .step ⟨(some 46), none, .iaddr 5 (.tmp 44) (.tmp 45)⟩ (
 .step ⟨(some 47), none, .load true 5 (.tmp 46)⟩ (
 .ev ⟨(some 48), none, .call (.fn 49) [(.tmp 42), (.tmp 47)]⟩ [⟨(some 46), none, .iaddr 5 (.tmp 44) (.tmp 45)⟩, ⟨(some 44), none, .load false 1 (.tmp 43)⟩, ⟨(some 43), none, .faddr 1 (.tmp 3)⟩, ⟨(some 41), none, .iaddr 4 (.tmp 39) (.tmp 40)⟩, ⟨(some 39), none, .load false 1 (.tmp 38)⟩, ⟨(some 38), none, .faddr 0 (.tmp 3)⟩] (
 .step ⟨(some 10), none, .mov (.tmp 48)⟩ (
 .done))
 (.stop)))))))))))))
 (.seq (.seq (.reg [⟨(some 11), none, .mov (.lit (.int .i64 0))⟩])
 (.block 0 (.loop (.seq (.seq (.reg [⟨(some 49), none, .mov (.tmp 11)⟩,
 ⟨(some 50), none, .mov (.tmp 10)⟩,
 ⟨(some 51), none, .len (.tmp 50)⟩,
 ⟨(some 52), none, .bin .lss (.tmp 49) (.tmp 51)⟩])
 (.cond (.tmp 52) (.skip)
 (.exit 0)))
 (.seq (.block 1 (.seq (.reg [⟨(some 55), none, .mov (.tmp 9)⟩,
 ⟨(some 56), none, .len (.tmp 55)⟩,
 ⟨(some 12), none, .mov (.tmp 56)⟩])
 (.seq (.draw (.step ⟨(some 57), none, .mov (.tmp 12)⟩ (
 .step ⟨(some 58), none, .bin .gtr (.tmp 57) (.lit (.int .i64 0))⟩ (
 .step ⟨(some 59), none, .mov (.tmp 58)⟩ (
 .step ⟨(some 60), (some (59, true)), .mov (.tmp 9)⟩ (
 .step ⟨(some 61), (some (59, true)), .mov (.tmp 12)⟩ (
 .step ⟨(some 62), (some (59, true)), .bin .sub (.tmp 61) (.lit (.int .i64 1))⟩ (
 .step ⟨(some 63), (some (59, true)), .iaddr 2 (.tmp 60) (.tmp 62)⟩ (
 .step ⟨(some 64), (some (59, true)), .faddr 1 (.tmp 63)⟩ (
 .step ⟨(some 65), (some (59, true)), .load false 1 (.tmp 64)⟩ (
 .step ⟨(some 66), (some (59, true)), .mov (.tmp 10)⟩ (
 .step ⟨(some 67), (some (59, true)), .mov (.tmp 11)⟩ (
 .step ⟨(some 68), (some (59, true)), .iaddr 1 (.tmp 66) (.tmp 67)⟩ (
 .step ⟨(some 69), (some (59, true)), .load false 1 (.tmp 68)⟩ (
 .step ⟨(some 70), (some (59, true)), .bin .sub (.tmp 69) (.lit (.int .i64 1))⟩ (
 .step ⟨(some 71), (some (59, true)), .bin .eql (.tmp 65) (.tmp 70)⟩ (
 .step ⟨(some 72), none, .pick (.tmp 59) (.tmp 71) (.lit (.bool false))⟩ (
 .done))))))))))))))))))
 (.cond (.tmp 72) (.reg [⟨(some 73), none, .mov (.tmp 9)⟩,
 ⟨(some 74), none, .mov (.tmp 12)⟩,
 ⟨(some 75), none, .bin .sub (.tmp 74) (.lit (.int .i64 1))⟩,
 ⟨(some 76), none, .mov (.tmp 10)⟩,
 ⟨(some 77), none, .mov (.tmp 11)⟩,
 ⟨(some 78), none, .iaddr 1 (.tmp 76) (.tmp 77)⟩,
 ⟨(some 79), none, .load false 1 (.tmp 78)⟩,
 ⟨(some 80), none, .iaddr 2 (.tmp 73) (.tmp 75)⟩,
 ⟨(some 81), none, .faddr 1 (.tmp 80)⟩,
 ⟨none, none, .store 1 (.tmp 81) (.tmp 79)⟩])
 (.draw (.step ⟨(some 82), none, .mov (.tmp 9)⟩ (
 .step ⟨(some 83), none, .mov (.tmp 10)⟩ (
 .step ⟨(some 84), none, .mov (.tmp 11)⟩ (
 .step ⟨(some 85), none, .iaddr 1 (.tmp 83) (.tmp 84)⟩ (
 .step ⟨(some 86), none, .load false 1 (.tmp 85)⟩ (
 .step ⟨(some 87), none, .mov (.tmp 10)⟩ (
 .step ⟨(some 88), none, .mov (.tmp 11)⟩ (
 .step ⟨(some 89), none, .iaddr 1 (.tmp 87) (.tmp 88)⟩ (
 .step ⟨(some 90), none, .load false 1 (.tmp 89)⟩ (
 .step ⟨(some 91), none, .build [(.int .i64 0), (.int .i64 0)] [(0, 1, (.tmp 86)), (1, 1, (.tmp 90))]⟩ (
 .ev ⟨(some 92), none, .bslice 2 (.agg #[(.int .i64 0), (.int .i64 0)]) 1 [(0, (.tmp 91))]⟩ [⟨(some 90), none, .load false 1 (.tmp 89)⟩, ⟨(some 89), none, .iaddr 1 (.tmp 87) (.tmp 88)⟩, ⟨(some 86), none, .load false 1 (.tmp 85)⟩, ⟨(some 85), none, .iaddr 1 (.tmp 83) (.tmp 84)⟩] (
 .ev ⟨(some 93), none, .app 2 16 (.tmp 82) (.tmp 92)⟩ [⟨(some 90), none, .load false 1 (.tmp 89)⟩, ⟨(some 89), none, .iaddr 1 (.tmp 87) (.tmp 88)⟩, ⟨(some 86), none, .load false 1 (.tmp 85)⟩, ⟨(some 85), none, .iaddr 1 (.tmp 83) (.tmp 84)⟩] (
 .step ⟨(some 9), none, .mov (.tmp 93)⟩ (
 .done))
 (.stop))
 (.stop)))))))))))))))))
 (.reg [⟨(some 53), none, .mov (.tmp 11)⟩,
 ⟨(some 54), none, .bin .add (.tmp 53) (.lit (.int .i64 1))⟩,
 ⟨(some 11), none, .mov (.tmp 54)⟩]))))))
 (.seq (.reg [⟨(some 94), none, .mov (.tmp 9)⟩,
 ⟨(some 6), none, .mov (.tmp 94)⟩,
 ⟨(some 7), none, .mov (.lit (.int .i64 0))⟩])
 (.ret)))))))))
theorem k12 : FnC Tryz.prog 12 95 [] [] [.tmp 6, .tmp 7] c12 3 := ⟨Tryz.f12, _, Tryz.func12, rfl, by decide, rfl, by decide, by kernel_rfl, by kernel_rfl⟩
/-- dipworks/dipworksref07.Count -/
def c18 : AC :=
 .seq (.reg [⟨(some 1), none, .box (.tmp 0)⟩,
 ⟨(some 2), none, .mov (.lit (.int .i64 0))⟩,
 ⟨(some 3), none, .mov (.lit (.int .i64 0))⟩])
 (.seq (.reg [⟨(some 5), none, .load true 2 (.tmp 1)⟩,
 ⟨(some 6), none, .call (.fn 38) [(.tmp 5), (.lit (.bool true))]⟩,
 ⟨(some 4), none, .mov (.tmp 6)⟩])
 (.seq (.seq (.reg [⟨(some 7), none, .mov (.tmp 4)⟩,
 ⟨(some 8), none, .bin .neq (.tmp 7) (.lit (.int .i64 0))⟩])
 (.cond (.tmp 8) (.seq (.reg [⟨(some 9), none, .mov (.tmp 4)⟩,
 ⟨(some 2), none, .mov (.lit (.int .i64 0))⟩,
 ⟨(some 3), none, .mov (.tmp 9)⟩])
 (.ret))
 (.skip)))
 (.seq (.reg [⟨(some 10), none, .load true 2 (.tmp 1)⟩,
 ⟨(some 11), none, .call (.fn 54) [(.tmp 10)]⟩,
 ⟨(some 12), none, .len (.tmp 11)⟩,
 ⟨(some 2), none, .mov (.tmp 12)⟩,
 ⟨(some 3), none, .mov (.lit (.int .i64 0))⟩])
 (.ret))))
theorem k18 : FnC Tryz.prog 18 13 [] [] [.tmp 2, .tmp 3] c18 1 := ⟨Tryz.f18, _, Tryz.func18, rfl, by decide, rfl, by decide, by kernel_rfl, by kernel_rfl⟩
/-- dipworks/dipworksref07.Can -/
def c20 : AC :=
 .seq (.reg [⟨(some 2), none, .box (.tmp 0)⟩,
 ⟨(some 4), none, .mov (.lit (.int .i64 0))⟩,
 ⟨(some 5), none, .mov (.lit (.int .i64 0))⟩])
 (.seq (.draw (.step ⟨(some 11), none, .load true 2 (.tmp 2)⟩ (
 .step ⟨(some 12), none, .load true 2 (.tmp 2)⟩ (
 .step ⟨(some 13), none, .mov (.tmp 1)⟩ (
 .ev ⟨(some 14), none, .call (.fn 44) [(.tmp 12), (.tmp 13)]⟩ [⟨(some 11), none, .load true 2 (.tmp 2)⟩] (
 .ev ⟨(some 15), none, .call (.fn 57) [(.tmp 11), (.tmp 14)]⟩ [⟨(some 12), none, .load true 2 (.tmp 2)⟩] (
 .step ⟨(some 10), none, .mov (.tmp 15)⟩ (
 .step ⟨(some 16), none, .ext (.tmp 10) 0⟩ (
 .step ⟨(some 17), none, .ext (.tmp 10) 1⟩ (
 .step ⟨(some 6), none, .mov (.tmp 16)⟩ (
 .step ⟨(some 7), none, .mov (.tmp 17)⟩ (
 .done))))))
 (.stop))
 (.stop))))))
 (.seq (.seq (.reg [⟨(some 18), none, .mov (.tmp 7)⟩,
 ⟨(some 19), none, .bin .neq (.tmp 18) (.lit (.int .i64 0))⟩])
 (.cond (.tmp 19) (.seq (.reg [⟨(some 20), none, .mov (.tmp 7)⟩,
 ⟨(some 4), none, .mov (.lit (.int .i64 0))⟩,
 ⟨(some 5), none, .mov (.tmp 20)⟩])
 (.ret))
 (.skip)))
 (.seq (.reg [⟨(some 8), none, .mov (.lit (.int .i64 0))⟩])
 (.seq (.seq (.reg [⟨(some 9), none, .mov (.lit (.int .i64 0))⟩])
 (.block 0 (.loop (.seq (.seq (.reg [⟨(some 21), none, .mov (.tmp 9)⟩,
 ⟨(some 22), none, .mov (.tmp 6)⟩,
 ⟨(some 23), none, .len (.tmp 22)⟩,
 ⟨(some 24), none, .bin .lss (.tmp 21) (.tmp 23)⟩])
 (.cond (.tmp 24) (.skip)
 (.exit 0)))
 (.seq (.block 1 (.seq (.reg [⟨(some 27), none, .mov (.tmp 8)⟩,
 ⟨(some 28), none, .mov (.tmp 6)⟩,
 ⟨(some 29), none, .mov (.tmp 9)⟩,
 ⟨(some 30), none, .iaddr 1 (.tmp 28) (.tmp 29)⟩,
 ⟨(some 31), none, .load false 1 (.tmp 30)⟩,
 ⟨(some 32), none, .mov (.tmp 1)⟩,
 ⟨(some 33), none, .iaddr 1 (.tmp 31) (.tmp 32)⟩,
 ⟨(some 34), none, .load false 1 (.tmp 33)⟩,
 ⟨(some 35), none, .call (.fn 58) [(.tmp 27), (.tmp 34)]⟩,
 ⟨(some 36), none, .un .not (.tmp 35)⟩])
 (.cond (.tmp 36) (.reg [⟨(some 37), none, .mov (.tmp 8)⟩,
 ⟨(some 38), none, .mov (.tmp 6)⟩,
 ⟨(some 39), none, .mov (.tmp 9)⟩,
 ⟨(some 40), none, .iaddr 1 (.tmp 38) (.tmp 39)⟩,
 ⟨(some 41), none, .load false 1 (.tmp 40)⟩,
 ⟨(some 42), none, .mov (.tmp 1)⟩,
 ⟨(some 43), none, .iaddr 1 (.tmp 41) (.tmp 42)⟩,
 ⟨(some 44), none, .load false 1 (.tmp 43)⟩,
 ⟨(some 45), none, .call (.fn 46) [(.tmp 44)]⟩,
 ⟨(some 46), none, .bin .add (.tmp 37) (.tmp 45)⟩,
 ⟨(some 8), none, .mov (.tmp 46)⟩])
 (.skip))))
 (.reg [⟨(some 25), none, .mov (.tmp 9)⟩,
 ⟨(some 26), none, .bin .add (.tmp 25) (.lit (.int .i64 1))⟩,
 ⟨(some 9), none, .mov (.tmp 26)⟩]))))))
 (.seq (.reg [⟨(some 47), none, .mov (.tmp 8)⟩,
 ⟨(some 4), none, .mov (.tmp 47)⟩,
 ⟨(some 5), none, .mov (.lit (.int .i64 0))⟩])
 (.ret))))))
theorem k20 : FnC Tryz.prog 20 48 [] [] [.tmp 4, .tmp 5] c20 2 := ⟨Tryz.f20, _, Tryz.func20, rfl, by decide, rfl, by decide, by kernel_rfl, by kernel_rfl⟩
/-- dipworks/dipworksref07.Where -/
def c22 : AC :=
 .seq (.reg [⟨(some 2), none, .box (.tmp 0)⟩,
 ⟨(some 4), none, .mov (.lit (.int .i64 0))⟩,
 ⟨(some 5), none, .mov (.lit (.bool false))⟩,
 ⟨(some 6), none, .mov (.lit (.int .i64 0))⟩])
 (.seq (.draw (.step ⟨(some 14), none, .load true 2 (.tmp 2)⟩ (
 .step ⟨(some 15), none, .load true 2 (.tmp 2)⟩ (
 .step ⟨(some 16), none, .mov (.tmp 1)⟩ (
 .ev ⟨(some 17), none, .call (.fn 39) [(.tmp 15), (.tmp 16)]⟩ [⟨(some 14), none, .load true 2 (.tmp 2)⟩] (
 .ev ⟨(some 18), none, .call (.fn 57) [(.tmp 14), (.tmp 17)]⟩ [⟨(some 15), none, .load true 2 (.tmp 2)⟩] (
 .step ⟨(some 13), none, .mov (.tmp 18)⟩ (
 .step ⟨(some 19), none, .ext (.tmp 13) 0⟩ (
 .step ⟨(some 20), none, .ext (.tmp 13) 1⟩ (
 .step ⟨(some 7), none, .mov (.tmp 19)⟩ (
 .step ⟨(some 8), none, .mov (.tmp 20)⟩ (
 .done))))))
 (.stop))
 (.stop))))))
 (.seq (.seq (.reg [⟨(some 21), none, .mov (.tmp 8)⟩,
 ⟨(some 22), none, .bin .neq (.tmp 21) (.lit (.int .i64 0))⟩])
 (.cond (.tmp 22) (.seq (.reg [⟨(some 23), none, .mov (.tmp 8)⟩,
 ⟨(some 4), none, .mov (.lit (.int .i64 0))⟩,
 ⟨(some 5), none, .mov (.lit (.bool false))⟩,
 ⟨(some 6), none, .mov (.tmp 23)⟩])
 (.ret))
 (.skip)))
 (.seq (.reg [⟨(some 9), none, .mov (.lit (.int .i64 0))⟩,
 ⟨(some 10), none, .mov (.lit (.bool false))⟩])
 (.seq (.seq (.reg [⟨(some 11), none, .mov (.lit (.int .i64 0))⟩])
 (.block 0 (.loop (.seq (.seq (.reg [⟨(some 24), none, .mov (.tmp 11)⟩,
 ⟨(some 25), none, .mov (.tmp 7)⟩,
 ⟨(some 26), none, .len (.tmp 25)⟩,
 ⟨(some 27), none, .bin .lss (.tmp 24) (.tmp 26)⟩])
 (.cond (.tmp 27) (.skip)
 (.exit 0)))
 (.seq (.block 1 (.seq (.seq (.reg [⟨(some 30), none, .mov (.tmp 7)⟩,
 ⟨(some 31), none, .mov (.tmp 11)⟩,
 ⟨(some 32), none, .iaddr 1 (.tmp 30) (.tmp 31)⟩,
 ⟨(some 33), none, .load false 1 (.tmp 32)⟩,
 ⟨(some 34), none, .mov (.tmp 1)⟩,
 ⟨(some 35), none, .call (.fn 62) [(.tmp 33), (.tmp 34)]⟩,
 ⟨(some 36), none, .un .not (.tmp 35)⟩])
 (.cond (.tmp 36) (.reg [⟨(some 10), none, .mov (.lit (.bool true))⟩])
 (.skip)))
 (.seq (.reg [⟨(some 12), none, .mov (.lit (.int .i64 0))⟩])
 (.block 2 (.loop (.seq (.seq (.reg [⟨(some 37), none, .mov (.tmp 12)⟩,
 ⟨(some 38), none, .faddr 1 (.tmp 2)⟩,
 ⟨(some 39), none, .load false 1 (.tmp 38)⟩,
 ⟨(some 40), none, .len (.tmp 39)⟩,
 ⟨(some 41), none, .bin .lss (.tmp 37) (.tmp 40)⟩])
 (.cond (.tmp 41) (.skip)
 (.exit 2)))
 (.seq (.block 3 (.seq (.reg [⟨(some 44), none, .mov (.tmp 7)⟩,
 ⟨(some 45), none, .mov (.tmp 11)⟩,
 ⟨(some 46), none, .iaddr 1 (.tmp 44) (.tmp 45)⟩,
 ⟨(some 47), none, .load false 1 (.tmp 46)⟩,
 ⟨(some 48), none, .mov (.tmp 12)⟩,
 ⟨(some 49), none, .iaddr 1 (.tmp 47) (.tmp 48)⟩,
 ⟨(some 50), none, .load false 1 (.tmp 49)⟩,
 ⟨(some 51), none, .mov (.tmp 1)⟩,
 ⟨(some 52), none, .bin .eql (.tmp 50) (.tmp 51)⟩,
 ⟨(some 53), none, .mov (.tmp 52)⟩,
 ⟨(some 54), (some (53, true)), .mov (.tmp 9)⟩,
 ⟨(some 55), (some (53, true)), .mov (.tmp 12)⟩,
 ⟨(some 56), (some (53, true)), .call (.fn 58) [(.tmp 54), (.tmp 55)]⟩,
 ⟨(some 57), (some (53, true)), .un .not (.tmp 56)⟩,
 ⟨(some 58), none, .pick (.tmp 53) (.tmp 57) (.lit (.bool false))⟩])
 (.cond (.tmp 58) (.reg [⟨(some 59), none, .mov (.tmp 9)⟩,
 ⟨(some 60), none, .mov (.tmp 12)⟩,
 ⟨(some 61), none, .call (.fn 46) [(.tmp 60)]⟩,
 ⟨(some 62), none, .bin .add (.tmp 59) (.tmp 61)⟩,
 ⟨(some 9), none, .mov (.tmp 62)⟩])
 (.skip))))
 (.reg [⟨(some 42), none, .mov (.tmp 12)⟩,
 ⟨(some 43), none, .bin .add (.tmp 42) (.lit (.int .i64 1))⟩,
 ⟨(some 12), none, .mov (.tmp 43)⟩]))))))))
 (.reg [⟨(some 28), none, .mov (.tmp 11)⟩,
 ⟨(some 29), none, .bin .add (.tmp 28) (.lit (.int .i64 1))⟩,
 ⟨(some 11), none, .mov (.tmp 29)⟩]))))))
 (.seq (.reg [⟨(some 63), none, .mov (.tmp 9)⟩,
 ⟨(some 64), none, .mov (.tmp 10)⟩,
 ⟨(some 4), none, .mov (.tmp 63)⟩,
 ⟨(some 5), none, .mov (.tmp 64)⟩,
 ⟨(some 6), none, .mov (.lit (.int .i64 0))⟩])
 (.ret))))))
theorem k22 : FnC Tryz.prog 22 65 [] [] [.tmp 4, .tmp 5, .tmp 6] c22 2 := ⟨Tryz.f22, _, Tryz.func22, rfl, by decide, rfl, by decide, by kernel_rfl, by kernel_rfl⟩
/-- dipworks/dipworksref07.Sure -/
def c24 : AC :=
 .seq (.reg [⟨(some 1), none, .box (.tmp 0)⟩,
 ⟨(some 2), none, .mov (.lit (.slice none 0 0))⟩,
 ⟨(some 3), none, .mov (.lit (.int .i64 0))⟩])
 (.seq (.reg [⟨(some 11), none, .load true 2 (.tmp 1)⟩,
 ⟨(some 12), none, .call (.fn 57) [(.tmp 11), (.lit (.bool true))]⟩,
 ⟨(some 10), none, .mov (.tmp 12)⟩,
 ⟨(some 13), none, .ext (.tmp 10) 0⟩,
 ⟨(some 14), none, .ext (.tmp 10) 1⟩,
 ⟨(some 4), none, .mov (.tmp 13)⟩,
 ⟨(some 5), none, .mov (.tmp 14)⟩])
 (.seq (.seq (.reg [⟨(some 15), none, .mov (.tmp 5)⟩,
 ⟨(some 16), none, .bin .neq (.tmp 15) (.lit (.int .i64 0))⟩])
 (.cond (.tmp 16) (.seq (.reg [⟨(some 17), none, .mov (.tmp 5)⟩,
 ⟨(some 2), none, .mov (.lit (.slice none 0 0))⟩,
 ⟨(some 3), none, .mov (.tmp 17)⟩])
 (.ret))
 (.skip)))
 (.seq (.reg [⟨(some 6), none, .mov (.lit (.slice none 0 0))⟩])
 (.seq (.seq (.reg [⟨(some 7), none, .mov (.lit (.int .i64 0))⟩])
 (.block 0 (.loop (.seq (.seq (.reg [⟨(some 18), none, .mov (.tmp 7)⟩,
 ⟨(some 19), none, .faddr 1 (.tmp 1)⟩,
 ⟨(some 20), none, .load false 1 (.tmp 19)⟩,
 ⟨(some 21), none, .len (.tmp 20)⟩,
 ⟨(some 22), none, .bin .lss (.tmp 18) (.tmp 21)⟩])
 (.cond (.tmp 22) (.skip)
 (.exit 0)))
 (.seq (.block 1 (.seq (.reg [⟨(some 25), none, .mov (.tmp 4)⟩,
 ⟨(some 26), none, .iaddr 1 (.tmp 25) (.lit (.int .i64 0))⟩,
 ⟨(some 27), none, .load false 1 (.tmp 26)⟩,
 ⟨(some 28), none, .mov (.tmp 7)⟩,
 ⟨(some 29), none, .iaddr 1 (.tmp 27) (.tmp 28)⟩,
 ⟨(some 30), none, .load false 1 (.tmp 29)⟩,
 ⟨(some 8), none, .mov (.tmp 30)⟩])
 (.seq (.seq (.reg [⟨(some 9), none, .mov (.lit (.int .i64 0))⟩])
 (.block 2 (.loop (.seq (.seq (.reg [⟨(some 31), none, .mov (.tmp 9)⟩,
 ⟨(some 32), none, .mov (.tmp 4)⟩,
 ⟨(some 33), none, .len (.tmp 32)⟩,
 ⟨(some 34), none, .bin .lss (.tmp 31) (.tmp 33)⟩])
 (.cond (.tmp 34) (.skip)
 (.exit 2)))
 (.seq (.block 3 (.seq (.reg [⟨(some 37), none, .mov (.tmp 4)⟩,
 ⟨(some 38), none, .mov (.tmp 9)⟩,
 ⟨(some 39), none, .iaddr 1 (.tmp 37) (.tmp 38)⟩,
 ⟨(some 40), none, .load false 1 (.tmp 39)⟩,
 ⟨(some 41), none, .mov (.tmp 7)⟩,
 ⟨(some 42), none, .iaddr 1 (.tmp 40) (.tmp 41)⟩,
 ⟨(some 43), none, .load false 1 (.tmp 42)⟩,
 ⟨(some 44), none, .mov (.tmp 8)⟩,
 ⟨(some 45), none, .bin .neq (.tmp 43) (.tmp 44)⟩])
 (.cond (.tmp 45) (.reg [⟨(some 8), none, .mov (.lit (.int .i64 (-1)))⟩])
 (.skip))))
 (.reg [⟨(some 35), none, .mov (.tmp 9)⟩,
 ⟨(some 36), none, .bin .add (.tmp 35) (.lit (.int .i64 1))⟩,
 ⟨(some 9), none, .mov (.tmp 36)⟩]))))))
 (.reg [⟨(some 46), none, .mov (.tmp 6)⟩,
 ⟨(some 47), none, .mov (.tmp 8)⟩,
 ⟨(some 48), none, .bslice 1 (.int .i64 0) 1 [(0, (.tmp 47))]⟩,
 ⟨(some 49), none, .app 1 8 (.tmp 46) (.tmp 48)⟩,
 ⟨(some 6), none, .mov (.tmp 49)⟩]))))
 (.reg [⟨(some 23), none, .mov (.tmp 7)⟩,
 ⟨(some 24), none, .bin .add (.tmp 23) (.lit (.int .i64 1))⟩,
 ⟨(some 7), none, .mov (.tmp 24)⟩]))))))
 (.seq (.reg [⟨(some 50), none, .mov (.tmp 6)⟩,
 ⟨(some 2), none, .mov (.tmp 50)⟩,
 ⟨(some 3), none, .mov (.lit (.int .i64 0))⟩])
 (.ret))))))
theorem k24 : FnC Tryz.prog 24 51 [] [] [.tmp 2, .tmp 3] c24 1 := ⟨Tryz.f24, _, Tryz.func24, rfl, by decide, rfl, by decide, by kernel_rfl, by kernel_rfl⟩
/-- dipworks/dipworksref07.Clash -/
def c26 : AC :=
 .seq (.reg [⟨(some 1), none, .box (.tmp 0)⟩,
 ⟨(some 2), none, .mov (.lit (.int .i64 0))⟩,
 ⟨(some 3), none, .mov (.lit (.int .i64 0))⟩])
 (.seq (.reg [⟨(some 7), none, .load true 2 (.tmp 1)⟩,
 ⟨(some 8), none, .call (.fn 38) [(.tmp 7), (.lit (.bool true))]⟩,
 ⟨(some 4), none, .mov (.tmp 8)⟩])
 (.seq (.seq (.reg [⟨(some 9), none, .mov (.tmp 4)⟩,
 ⟨(some 10), none, .bin .neq (.tmp 9) (.lit (.int .i64 0))⟩])
 (.cond (.tmp 10) (.seq (.reg [⟨(some 11), none, .mov (.tmp 4)⟩,
 ⟨(some 2), none, .mov (.lit (.int .i64 0))⟩,
 ⟨(some 3), none, .mov (.tmp 11)⟩])
 (.ret))
 (.skip)))
 (.seq (.seq (.reg [⟨(some 12), none, .load true 2 (.tmp 1)⟩,
 ⟨(some 13), none, .call (.fn 54) [(.tmp 12)]⟩,
 ⟨(some 14), none, .len (.tmp 13)⟩,
 ⟨(some 15), none, .bin .gtr (.tmp 14) (.lit (.int .i64 0))⟩])
 (.cond (.tmp 15) (.seq (.reg [⟨(some 2), none, .mov (.lit (.int .i64 0))⟩,
 ⟨(some 3), none, .mov (.lit (.int .i64 4))⟩])
 (.ret))
 (.skip)))
 (.seq (.reg [⟨(some 16), none, .load true 2 (.tmp 1)⟩,
 ⟨(some 17), none, .call (.fn 67) [(.tmp 16)]⟩,
 ⟨(some 5), none, .mov (.tmp 17)⟩])
 (.seq (.seq (.reg [⟨(some 6), none, .mov (.lit (.int .i64 0))⟩])
 (.block 0 (.loop (.seq (.seq (.reg [⟨(some 18), none, .mov (.tmp 6)⟩,
 ⟨(some 19), none, .load true 2 (.tmp 1)⟩,
 ⟨(some 20), none, .call (.fn 67) [(.tmp 19)]⟩,
 ⟨(some 21), none, .bin .leq (.tmp 18) (.tmp 20)⟩])
 (.cond (.tmp 21) (.skip)
 (.exit 0)))
 (.seq (.block 1 (.seq (.reg [⟨(some 24), none, .mov (.tmp 6)⟩,
 ⟨(some 25), none, .call (.fn 68) [(.tmp 24)]⟩,
 ⟨(some 26), none, .mov (.tmp 5)⟩,
 ⟨(some 27), none, .call (.fn 68) [(.tmp 26)]⟩,
 ⟨(some 28), none, .bin .lss (.tmp 25) (.tmp 27)⟩,
 ⟨(some 29), none, .mov (.tmp 28)⟩,
 ⟨(some 30), (some (29, true)), .load true 2 (.tmp 1)⟩,
 ⟨(some 31), (some (29, true)), .mov (.tmp 6)⟩,
 ⟨(some 32), (some (29, true)), .call (.fn 69) [(.tmp 30), (.tmp 31), (.lit (.slice none 0 0)), (.lit (.slice none 0 0))]⟩,
 ⟨(some 33), (some (29, true)), .len (.tmp 32)⟩,
 ⟨(some 34), (some (29, true)), .bin .eql (.tmp 33) (.lit (.int .i64 0))⟩,
 ⟨(some 35), none, .pick (.tmp 29) (.tmp 34) (.lit (.bool false))⟩])
 (.cond (.tmp 35) (.reg [⟨(some 36), none, .mov (.tmp 6)⟩,
 ⟨(some 5), none, .mov (.tmp 36)⟩])
 (.skip))))
 (.reg [⟨(some 22), none, .mov (.tmp 6)⟩,
 ⟨(some 23), none, .bin .add (.tmp 22) (.lit (.int .i64 1))⟩,
 ⟨(some 6), none, .mov (.tmp 23)⟩]))))))
 (.seq (.reg [⟨(some 37), none, .mov (.tmp 5)⟩,
 ⟨(some 2), none, .mov (.tmp 37)⟩,
 ⟨(some 3), none, .mov (.lit (.int .i64 0))⟩])
 (.ret)))))))
theorem k26 : FnC Tryz.prog 26 38 [] [] [.tmp 2, .tmp 3] c26 1 := ⟨Tryz.f26, _, Tryz.func26, rfl, by decide, rfl, by decide, by kernel_rfl, by kernel_rfl⟩
/-- dipworks/dipworksref07.check -/
def c38 : AC :=
 .seq (.reg [⟨(some 2), none, .box (.tmp 0)⟩,
 ⟨(some 4), none, .mov (.lit (.int .i64 0))⟩])
 (.seq (.seq (.reg [⟨(some 5), none, .load true 2 (.tmp 2)⟩,
 ⟨(some 6), none, .call (.fn 16) [(.tmp 5)]⟩,
 ⟨(some 7), none, .un .not (.tmp 6)⟩])
 (.cond (.tmp 7) (.seq (.reg [⟨(some 4), none, .mov (.lit (.int .i64 1))⟩])
 (.ret))
 (.skip)))
 (.seq (.seq (.reg [⟨(some 8), none, .mov (.tmp 1)⟩,
 ⟨(some 9), none, .un .not (.tmp 8)⟩])
 (.cond (.tmp 9) (.seq (.reg [⟨(some 4), none, .mov (.lit (.int .i64 2))⟩])
 (.ret))
 (.skip)))
 (.seq (.reg [⟨(some 4), none, .mov (.lit (.int .i64 0))⟩])
 (.ret))))
theorem k38 : FnC Tryz.prog 38 10 [] [] [.tmp 4] c38 2 := ⟨Tryz.f38, _, Tryz.func38, rfl, by decide, rfl, by decide, by kernel_rfl, by kernel_rfl⟩
/-- dipworks/dipworksref07.Owner -/
def c39 : AC :=
 .seq (.reg [⟨(some 2), none, .box (.tmp 0)⟩,
 ⟨(some 4), none, .mov (.lit (.bool false))⟩])
 (.seq (.reg [⟨(some 5), none, .mov (.tmp 1)⟩,
 ⟨(some 6), none, .faddr 0 (.tmp 2)⟩,
 ⟨(some 7), none, .load false 1 (.tmp 6)⟩,
 ⟨(some 8), none, .len (.tmp 7)⟩,
 ⟨(some 9), none, .bin .sub (.tmp 8) (.lit (.int .i64 1))⟩,
 ⟨(some 10), none, .call (.fn 51) [(.tmp 5), (.lit (.int .i64 0)), (.tmp 9)]⟩,
 ⟨(some 4), none, .mov (.tmp 10)⟩])
 (.ret))
theorem k39 : FnC Tryz.prog 39 11 [] [] [.tmp 4] c39 2 := ⟨Tryz.f39, _, Tryz.func39, rfl, by decide, rfl, by decide, by kernel_rfl, by kernel_rfl⟩
/-- dipworks/dipworksref07.Seen -/
def c41 : AC :=
 .seq (.reg [⟨(some 3), none, .box (.tmp 0)⟩,
 ⟨(some 5), none, .box (.tmp 2)⟩,
 ⟨(some 6), none, .mov (.lit (.bool false))⟩])
 (.seq (.seq (.reg [⟨(some 8), none, .faddr 1 (.tmp 3)⟩,
 ⟨(some 9), none, .faddr 0 (.tmp 8)⟩,
 ⟨(some 10), none, .load false 1 (.tmp 9)⟩,
 ⟨(some 7), none, .mov (.tmp 10)⟩])
 (.block 0 (.loop (.seq (.seq (.reg [⟨(some 11), none, .mov (.tmp 7)⟩,
 ⟨(some 12), none, .faddr 1 (.tmp 3)⟩,
 ⟨(some 13), none, .faddr 1 (.tmp 12)⟩,
 ⟨(some 14), none, .load false 1 (.tmp 13)⟩,
 ⟨(some 15), none, .bin .leq (.tmp 11) (.tmp 14)⟩])
 (.cond (.tmp 15) (.skip)
 (.exit 0)))
 (.seq (.block 1 (.seq (.draw (.step ⟨(some 18), none, .mov (.tmp 1)⟩ (
 .step ⟨(some 19), none, .faddr 0 (.tmp 3)⟩ (
 .step ⟨(some 20), none, .load false 1 (.tmp 19)⟩ (
 .step ⟨(some 21), none, .bin .geq (.tmp 18) (.tmp 20)⟩ (
 .step ⟨(some 22), none, .mov (.tmp 21)⟩ (
 .step ⟨(some 23), (some (22, true)), .load true 4 (.tmp 3)⟩ (
 .step ⟨(some 24), (some (22, true)), .mov (.tmp 1)⟩ (
 .step ⟨(some 25), (some (22, true)), .mov (.tmp 7)⟩ (
 .step ⟨(some 27), (some (22, true)), .faddr 0 (.tmp 5)⟩ (
 .step ⟨(some 28), (some (22, true)), .load false 1 (.tmp 27)⟩ (
 .step ⟨(some 29), (some (22, true)), .faddr 1 (.tmp 5)⟩ (
 .step ⟨(some 30), (some (22, true)), .load false 1 (.tmp 29)⟩ (
 .ev ⟨(some 26), (some (22, true)), .call (.fn 78) [(.tmp 23), (.tmp 24), (.tmp 25)]⟩ [⟨(some 30), (some (22, true)), .load false 1 (.tmp 29)⟩, ⟨(some 29), (some (22, true)), .faddr 1 (.tmp 5)⟩, ⟨(some 28), (some (22, true)), .load false 1 (.tmp 27)⟩, ⟨(some 27), (some (22, true)), .faddr 0 (.tmp 5)⟩, ⟨(some 20), none, .load false 1 (.tmp 19)⟩, ⟨(some 19), none, .faddr 0 (.tmp 3)⟩] (
 .ev ⟨(some 31), (some (22, true)), .call (.fn 51) [(.tmp 26), (.tmp 28), (.tmp 30)]⟩ [⟨(some 29), (some (22, true)), .faddr 1 (.tmp 5)⟩, ⟨(some 27), (some (22, true)), .faddr 0 (.tmp 5)⟩, ⟨(some 23), (some (22, true)), .load true 4 (.tmp 3)⟩, ⟨(some 20), none, .load false 1 (.tmp 19)⟩, ⟨(some 19), none, .faddr 0 (.tmp 3)⟩] (
 .step ⟨(some 32), none, .pick (.tmp 22) (.tmp 31) (.lit (.bool false))⟩ (
 .done))
 (.stop))
 (.stop)))))))))))))))
 (.cond (.tmp 32) (.seq (.reg [⟨(some 6), none, .mov (.lit (.bool true))⟩])
 (.ret))
 (.skip))))
 (.reg [⟨(some 16), none, .mov (.tmp 7)⟩,
 ⟨(some 17), none, .bin .add (.tmp 16) (.lit (.int .i64 1))⟩,
 ⟨(some 7), none, .mov (.tmp 17)⟩]))))))
 (.seq (.reg [⟨(some 6), none, .mov (.lit (.bool false))⟩])
 (.ret)))
theorem k41 : FnC Tryz.prog 41 33 [] [] [.tmp 6] c41 3 := ⟨Tryz.f41, _, Tryz.func41, rfl, by decide, rfl, by decide, by kernel_rfl, by kernel_rfl⟩
/-- dipworks/dipworksref07.Find -/
def c44 : AC :=
 .seq (.reg [⟨(some 2), none, .box (.tmp 0)⟩,
 ⟨(some 4), none, .mov (.lit (.bool false))⟩])
 (.seq (.reg [⟨(some 5), none, .mov (.tmp 1)⟩,
 ⟨(some 6), none, .faddr 1 (.tmp 2)⟩,
 ⟨(some 7), none, .load false 1 (.tmp 6)⟩,
 ⟨(some 8), none, .len (.tmp 7)⟩,
 ⟨(some 9), none, .bin .sub (.tmp 8) (.lit (.int .i64 1))⟩,
 ⟨(some 10), none, .call (.fn 51) [(.tmp 5), (.lit (.int .i64 0)), (.tmp 9)]⟩,
 ⟨(some 4), none, .mov (.tmp 10)⟩])
 (.ret))
theorem k44 : FnC Tryz.prog 44 11 [] [] [.tmp 4] c44 2 := ⟨Tryz.f44, _, Tryz.func44, rfl, by decide, rfl, by decide, by kernel_rfl, by kernel_rfl⟩
/-- dipworks/dipworksref07.Fit -/
def c45 : AC :=
 .seq (.reg [⟨(some 3), none, .box (.tmp 0)⟩,
 ⟨(some 6), none, .mov (.lit (.bool false))⟩])
 (.seq (.draw (.step ⟨(some 9), none, .faddr 0 (.tmp 3)⟩ (
 .step ⟨(some 10), none, .load false 1 (.tmp 9)⟩ (
 .step ⟨(some 11), none, .mov (.tmp 2)⟩ (
 .step ⟨(some 12), none, .iaddr 4 (.tmp 10) (.tmp 11)⟩ (
 .step ⟨(some 13), none, .load true 4 (.tmp 12)⟩ (
 .step ⟨(some 14), none, .faddr 1 (.tmp 3)⟩ (
 .step ⟨(some 15), none, .load false 1 (.tmp 14)⟩ (
 .step ⟨(some 16), none, .mov (.tmp 1)⟩ (
 .step ⟨(some 17), none, .iaddr 5 (.tmp 15) (.tmp 16)⟩ (
 .step ⟨(some 18), none, .load true 5 (.tmp 17)⟩ (
 .ev ⟨(some 7), none, .alloc [(.int .i64 0), (.int .i64 0), (.int .i64 0), (.int .i64 0)]⟩ [⟨(some 18), none, .load true 5 (.tmp 17)⟩, ⟨(some 17), none, .iaddr 5 (.tmp 15) (.tmp 16)⟩, ⟨(some 15), none, .load false 1 (.tmp 14)⟩, ⟨(some 14), none, .faddr 1 (.tmp 3)⟩, ⟨(some 13), none, .load true 4 (.tmp 12)⟩, ⟨(some 12), none, .iaddr 4 (.tmp 10) (.tmp 11)⟩, ⟨(some 10), none, .load false 1 (.tmp 9)⟩, ⟨(some 9), none, .faddr 0 (.tmp 3)⟩] (
 .ev ⟨(some 8), none, .alloc [(.int .i64 0), (.int .i64 0), (.int .i64 0), (.int .i64 0), (.bool false)]⟩ [⟨(some 18), none, .load true 5 (.tmp 17)⟩, ⟨(some 17), none, .iaddr 5 (.tmp 15) (.tmp 16)⟩, ⟨(some 15), none, .load false 1 (.tmp 14)⟩, ⟨(some 14), none, .faddr 1 (.tmp 3)⟩, ⟨(some 13), none, .load true 4 (.tmp 12)⟩, ⟨(some 12), none, .iaddr 4 (.tmp 10) (.tmp 11)⟩, ⟨(some 10), none, .load false 1 (.tmp 9)⟩, ⟨(some 9), none, .faddr 0 (.tmp 3)⟩] (
 .ev ⟨none, none, .store 4 (.tmp 7) (.tmp 13)⟩ [⟨(some 18), none, .load true 5 (.tmp 17)⟩, ⟨(some 17), none, .iaddr 5 (.tmp 15) (.tmp 16)⟩, ⟨(some 15), none, .load false 1 (.tmp 14)⟩, ⟨(some 14), none, .faddr 1 (.tmp 3)⟩] (
 .ev ⟨none, none, .store 5 (.tmp 8) (.tmp 18)⟩ [] (
 .done)
 (.stop))
 (.stop))
 (.stop))
 (.ev ⟨(some 8), none, .alloc [(.int .i64 0), (.int .i64 0), (.int .i64 0), (.int .i64 0), (.bool false)]⟩ [⟨(some 18), none, .load true 5 (.tmp 17)⟩, ⟨(some 17), none, .iaddr 5 (.tmp 15) (.tmp 16)⟩, ⟨(some 15), none, .load false 1 (.tmp 14)⟩, ⟨(some 14), none, .faddr 1 (.tmp 3)⟩, ⟨(some 13), none, .load true 4 (.tmp 12)⟩, ⟨(some 12), none, .iaddr 4 (.tmp 10) (.tmp 11)⟩, ⟨(some 10), none, .load false 1 (.tmp 9)⟩, ⟨(some 9), none, .faddr 0 (.tmp 3)⟩] (
 .ev ⟨(some 7), none, .alloc [(.int .i64 0), (.int .i64 0), (.int .i64 0), (.int .i64 0)]⟩ [⟨(some 18), none, .load true 5 (.tmp 17)⟩, ⟨(some 17), none, .iaddr 5 (.tmp 15) (.tmp 16)⟩, ⟨(some 15), none, .load false 1 (.tmp 14)⟩, ⟨(some 14), none, .faddr 1 (.tmp 3)⟩, ⟨(some 13), none, .load true 4 (.tmp 12)⟩, ⟨(some 12), none, .iaddr 4 (.tmp 10) (.tmp 11)⟩, ⟨(some 10), none, .load false 1 (.tmp 9)⟩, ⟨(some 9), none, .faddr 0 (.tmp 3)⟩] (
 .ev ⟨none, none, .store 4 (.tmp 7) (.tmp 13)⟩ [⟨(some 18), none, .load true 5 (.tmp 17)⟩, ⟨(some 17), none, .iaddr 5 (.tmp 15) (.tmp 16)⟩, ⟨(some 15), none, .load false 1 (.tmp 14)⟩, ⟨(some 14), none, .faddr 1 (.tmp 3)⟩] (
 .ev ⟨none, none, .store 5 (.tmp 8) (.tmp 18)⟩ [] (
 .done)
 (.stop))
 (.stop))
 (.stop))
 (.stop))))))))))))))
 (.seq (.seq (.reg [⟨(some 19), none, .faddr 3 (.tmp 7)⟩,
 ⟨(some 20), none, .load false 1 (.tmp 19)⟩,
 ⟨(some 21), none, .faddr 0 (.tmp 8)⟩,
 ⟨(some 22), none, .load false 1 (.tmp 21)⟩,
 ⟨(some 23), none, .call (.fn 58) [(.tmp 20), (.tmp 22)]⟩,
 ⟨(some 24), none, .un .not (.tmp 23)⟩])
 (.cond (.tmp 24) (.seq (.reg [⟨(some 6), none, .mov (.lit (.bool false))⟩])
 (.ret))
 (.skip)))
 (.seq (.seq (.reg [⟨(some 25), none, .faddr 4 (.tmp 8)⟩,
 ⟨(some 26), none, .load false 1 (.tmp 25)⟩])
 (.cond (.tmp 26) (.seq (.reg [⟨(some 27), none, .load true 4 (.tmp 7)⟩,
 ⟨(some 28), none, .load true 5 (.tmp 8)⟩,
 ⟨(some 29), none, .call (.fn 49) [(.tmp 27), (.tmp 28)]⟩,
 ⟨(some 30), none, .len (.tmp 29)⟩,
 ⟨(some 31), none, .bin .gtr (.tmp 30) (.lit (.int .i64 0))⟩,
 ⟨(some 6), none, .mov (.tmp 31)⟩])
 (.ret))
 (.skip)))
 (.seq (.reg [⟨(some 32), none, .load true 4 (.tmp 7)⟩,
 ⟨(some 33), none, .faddr 1 (.tmp 8)⟩,
 ⟨(some 34), none, .load false 1 (.tmp 33)⟩,
 ⟨(some 35), none, .faddr 2 (.tmp 8)⟩,
 ⟨(some 36), none, .load true 2 (.tmp 35)⟩,
 ⟨(some 37), none, .call (.fn 41) [(.tmp 32), (.tmp 34), (.tmp 36)]⟩,
 ⟨(some 6), none, .mov (.tmp 37)⟩])
 (.ret)))))
theorem k45 : FnC Tryz.prog 45 38 [] [] [.tmp 6] c45 3 := ⟨Tryz.f45, _, Tryz.func45, rfl, by decide, rfl, by decide, by kernel_rfl, by kernel_rfl⟩
/-- dipworks/dipworksref07.Stops -/
def c49 : AC :=
 .seq (.reg [⟨(some 2), none, .box (.tmp 0)⟩,
 ⟨(some 3), none, .box (.tmp 1)⟩,
 ⟨(some 4), none, .mov (.lit (.slice none 0 0))⟩])
 (.seq (.reg [⟨(some 5), none, .mov (.lit (.slice none 0 0))⟩])
 (.seq (.seq (.reg [⟨(some 7), none, .faddr 0 (.tmp 2)⟩,
 ⟨(some 8), none, .load false 1 (.tmp 7)⟩,
 ⟨(some 6), none, .mov (.tmp 8)⟩])
 (.block 0 (.loop (.seq (.seq (.reg [⟨(some 9), none, .mov (.tmp 6)⟩,
 ⟨(some 10), none, .faddr 1 (.tmp 3)⟩,
 ⟨(some 11), none, .load false 1 (.tmp 10)⟩,
 ⟨(some 12), none, .bin .leq (.tmp 9) (.tmp 11)⟩])
 (.cond (.tmp 12) (.skip)
 (.exit 0)))
 (.seq (.block 1 (.seq (.reg [⟨(some 15), none, .load true 4 (.tmp 2)⟩,
 ⟨(some 16), none, .mov (.tmp 6)⟩,
 ⟨(some 17), none, .faddr 2 (.tmp 3)⟩,
 ⟨(some 18), none, .load true 2 (.tmp 17)⟩,
 ⟨(some 19), none, .call (.fn 41) [(.tmp 15), (.tmp 16), (.tmp 18)]⟩])
 (.cond (.tmp 19) (.reg [⟨(some 20), none, .mov (.tmp 5)⟩,
 ⟨(some 21), none, .mov (.tmp 6)⟩,
 ⟨(some 22), none, .bslice 1 (.int .i64 0) 1 [(0, (.tmp 21))]⟩,
 ⟨(some 23), none, .app 1 8 (.tmp 20) (.tmp 22)⟩,
 ⟨(some 5), none, .mov (.tmp 23)⟩])
 (.skip))))
 (.reg [⟨(some 13), none, .mov (.tmp 6)⟩,
 ⟨(some 14), none, .bin .add (.tmp 13) (.lit (.int .i64 1))⟩,
 ⟨(some 6), none, .mov (.tmp 14)⟩]))))))
 (.seq (.reg [⟨(some 24), none, .mov (.tmp 5)⟩,
 ⟨(some 4), none, .mov (.tmp 24)⟩])
 (.ret))))
theorem k49 : FnC Tryz.prog 49 25 [] [] [.tmp 4] c49 2 := ⟨Tryz.f49, _, Tryz.func49, rfl, by decide, rfl, by decide, by kernel_rfl, by kernel_rfl⟩
/-- dipworks/dipworksref07.Truths -/
def c54 : AC :=
 .seq (.reg [⟨(some 1), none, .box (.tmp 0)⟩,
 ⟨(some 2), none, .mov (.lit (.slice none 0 0))⟩])
 (.seq (.draw (.step ⟨(some 3), none, .load true 2 (.tmp 1)⟩ (
 .step ⟨(some 4), none, .load true 2 (.tmp 1)⟩ (
 .ev ⟨(some 5), none, .call (.fn 67) [(.tmp 4)]⟩ [⟨(some 3), none, .load true 2 (.tmp 1)⟩] (
 .ev ⟨(some 6), none, .call (.fn 69) [(.tmp 3), (.tmp 5), (.lit (.slice none 0 0)), (.lit (.slice none 0 0))]⟩ [⟨(some 4), none, .load true 2 (.tmp 1)⟩] (
 .step ⟨(some 2), none, .mov (.tmp 6)⟩ (
 .done))
 (.stop))
 (.stop)))))
 (.ret))
theorem k54 : FnC Tryz.prog 54 7 [] [] [.tmp 2] c54 1 := ⟨Tryz.f54, _, Tryz.func54, rfl, by decide, rfl, by decide, by kernel_rfl, by kernel_rfl⟩
/-- dipworks/dipworksref07.told -/
def c57 : AC :=
 .seq (.reg [⟨(some 2), none, .box (.tmp 0)⟩,
 ⟨(some 4), none, .mov (.lit (.slice none 0 0))⟩,
 ⟨(some 5), none, .mov (.lit (.int .i64 0))⟩])
 (.seq (.reg [⟨(some 8), none, .load true 2 (.tmp 2)⟩,
 ⟨(some 9), none, .mov (.tmp 1)⟩,
 ⟨(some 10), none, .call (.fn 38) [(.tmp 8), (.tmp 9)]⟩,
 ⟨(some 6), none, .mov (.tmp 10)⟩])
 (.seq (.seq (.reg [⟨(some 11), none, .mov (.tmp 6)⟩,
 ⟨(some 12), none, .bin .neq (.tmp 11) (.lit (.int .i64 0))⟩])
 (.cond (.tmp 12) (.seq (.reg [⟨(some 13), none, .mov (.tmp 6)⟩,
 ⟨(some 4), none, .mov (.lit (.slice none 0 0))⟩,
 ⟨(some 5), none, .mov (.tmp 13)⟩])
 (.ret))
 (.skip)))
 (.seq (.reg [⟨(some 14), none, .load true 2 (.tmp 2)⟩,
 ⟨(some 15), none, .call (.fn 54) [(.tmp 14)]⟩,
 ⟨(some 7), none, .mov (.tmp 15)⟩])
 (.seq (.seq (.reg [⟨(some 16), none, .mov (.tmp 7)⟩,
 ⟨(some 17), none, .len (.tmp 16)⟩,
 ⟨(some 18), none, .bin .eql (.tmp 17) (.lit (.int .i64 0))⟩])
 (.cond (.tmp 18) (.seq (.reg [⟨(some 4), none, .mov (.lit (.slice none 0 0))⟩,
 ⟨(some 5), none, .mov (.lit (.int .i64 10))⟩])
 (.ret))
 (.skip)))
 (.seq (.reg [⟨(some 19), none, .mov (.tmp 7)⟩,
 ⟨(some 4), none, .mov (.tmp 19)⟩,
 ⟨(some 5), none, .mov (.lit (.int .i64 0))⟩])
 (.ret))))))
theorem k57 : FnC Tryz.prog 57 20 [] [] [.tmp 4, .tmp 5] c57 2 := ⟨Tryz.f57, _, Tryz.func57, rfl, by decide, rfl, by decide, by kernel_rfl, by kernel_rfl⟩
/-- dipworks/dipworksref07.Has -/
def c58 : AC :=
 .seq (.reg [⟨(some 4), none, .mov (.lit (.bool false))⟩])
 (.seq (.reg [⟨(some 5), none, .mov (.tmp 0)⟩,
 ⟨(some 6), none, .mov (.tmp 1)⟩,
 ⟨(some 7), none, .call (.fn 46) [(.tmp 6)]⟩,
 ⟨(some 8), none, .bin .quo (.tmp 5) (.tmp 7)⟩,
 ⟨(some 9), none, .bin .rem (.tmp 8) (.lit (.int .i64 2))⟩,
 ⟨(some 10), none, .bin .eql (.tmp 9) (.lit (.int .i64 1))⟩,
 ⟨(some 4), none, .mov (.tmp 10)⟩])
 (.ret))
theorem k58 : FnC Tryz.prog 58 11 [] [] [.tmp 4] c58 2 := ⟨Tryz.f58, _, Tryz.func58, rfl, by decide, rfl, by decide, by kernel_rfl, by kernel_rfl⟩
/-- dipworks/dipworksref07.taken -/
def c62 : AC :=
 .seq (.reg [⟨(some 4), none, .mov (.lit (.bool false))⟩])
 (.seq (.seq (.reg [⟨(some 5), none, .mov (.lit (.int .i64 0))⟩])
 (.block 0 (.loop (.seq (.seq (.reg [⟨(some 6), none, .mov (.tmp 5)⟩,
 ⟨(some 7), none, .mov (.tmp 0)⟩,
 ⟨(some 8), none, .len (.tmp 7)⟩,
 ⟨(some 9), none, .bin .lss (.tmp 6) (.tmp 8)⟩])
 (.cond (.tmp 9) (.skip)
 (.exit 0)))
 (.seq (.block 1 (.seq (.reg [⟨(some 12), none, .mov (.tmp 0)⟩,
 ⟨(some 13), none, .mov (.tmp 5)⟩,
 ⟨(some 14), none, .iaddr 1 (.tmp 12) (.tmp 13)⟩,
 ⟨(some 15), none, .load false 1 (.tmp 14)⟩,
 ⟨(some 16), none, .mov (.tmp 1)⟩,
 ⟨(some 17), none, .bin .eql (.tmp 15) (.tmp 16)⟩])
 (.cond (.tmp 17) (.seq (.reg [⟨(some 4), none, .mov (.lit (.bool true))⟩])
 (.ret))
 (.skip))))
 (.reg [⟨(some 10), none, .mov (.tmp 5)⟩,
 ⟨(some 11), none, .bin .add (.tmp 10) (.lit (.int .i64 1))⟩,
 ⟨(some 5), none, .mov (.tmp 11)⟩]))))))
 (.seq (.reg [⟨(some 4), none, .mov (.lit (.bool false))⟩])
 (.ret)))
theorem k62 : FnC Tryz.prog 62 18 [] [] [.tmp 4] c62 2 := ⟨Tryz.f62, _, Tryz.func62, rfl, by decide, rfl, by decide, by kernel_rfl, by kernel_rfl⟩
/-- dipworks/dipworksref07.every -/
def c67 : AC :=
 .seq (.reg [⟨(some 1), none, .box (.tmp 0)⟩,
 ⟨(some 2), none, .mov (.lit (.int .i64 0))⟩])
 (.seq (.reg [⟨(some 3), none, .faddr 1 (.tmp 1)⟩,
 ⟨(some 4), none, .load false 1 (.tmp 3)⟩,
 ⟨(some 5), none, .len (.tmp 4)⟩,
 ⟨(some 6), none, .call (.fn 46) [(.tmp 5)]⟩,
 ⟨(some 7), none, .bin .sub (.tmp 6) (.lit (.int .i64 1))⟩,
 ⟨(some 2), none, .mov (.tmp 7)⟩])
 (.ret))
theorem k67 : FnC Tryz.prog 67 8 [] [] [.tmp 2] c67 1 := ⟨Tryz.f67, _, Tryz.func67, rfl, by decide, rfl, by decide, by kernel_rfl, by kernel_rfl⟩
/-- dipworks/dipworksref07.truths -/
def c69 : AC :=
 .seq (.reg [⟨(some 4), none, .box (.tmp 0)⟩,
 ⟨(some 8), none, .mov (.lit (.slice none 0 0))⟩])
 (.seq (.reg [⟨(some 11), none, .mov (.tmp 2)⟩,
 ⟨(some 12), none, .len (.tmp 11)⟩,
 ⟨(some 9), none, .mov (.tmp 12)⟩])
 (.seq (.seq (.reg [⟨(some 13), none, .mov (.tmp 9)⟩,
 ⟨(some 14), none, .faddr 1 (.tmp 4)⟩,
 ⟨(some 15), none, .load false 1 (.tmp 14)⟩,
 ⟨(some 16), none, .len (.tmp 15)⟩,
 ⟨(some 17), none, .bin .eql (.tmp 13) (.tmp 16)⟩])
 (.cond (.tmp 17) (.seq (.reg [⟨(some 18), none, .mov (.tmp 3)⟩,
 ⟨(some 19), none, .mov (.tmp 2)⟩,
 ⟨(some 20), none, .bslice 1 (.slice none 0 0) 1 [(0, (.tmp 19))]⟩,
 ⟨(some 21), none, .app 1 24 (.tmp 18) (.tmp 20)⟩,
 ⟨(some 8), none, .mov (.tmp 21)⟩])
 (.ret))
 (.skip)))
 (.seq (.seq (.reg [⟨(some 22), none, .mov (.tmp 1)⟩,
 ⟨(some 23), none, .mov (.tmp 9)⟩,
 ⟨(some 24), none, .call (.fn 58) [(.tmp 22), (.tmp 23)]⟩,
 ⟨(some 25), none, .un .not (.tmp 24)⟩])
 (.cond (.tmp 25) (.seq (.draw (.step ⟨(some 26), none, .load true 2 (.tmp 4)⟩ (
 .step ⟨(some 27), none, .mov (.tmp 1)⟩ (
 .step ⟨(some 29), none, .mov (.tmp 2)⟩ (
 .step ⟨(some 33), none, .mov (.tmp 3)⟩ (
 .ev ⟨(some 28), none, .bslice 1 (.int .i64 0) 0 []⟩ [⟨(some 26), none, .load true 2 (.tmp 4)⟩] (
 .ev ⟨(some 30), none, .app 1 8 (.tmp 28) (.tmp 29)⟩ [⟨(some 26), none, .load true 2 (.tmp 4)⟩] (
 .ev ⟨(some 31), none, .bslice 1 (.int .i64 0) 1 [(0, (.lit (.int .i64 (-1))))]⟩ [⟨(some 26), none, .load true 2 (.tmp 4)⟩] (
 .ev ⟨(some 32), none, .app 1 8 (.tmp 30) (.tmp 31)⟩ [⟨(some 26), none, .load true 2 (.tmp 4)⟩] (
 .ev ⟨(some 34), none, .call (.fn 69) [(.tmp 26), (.tmp 27), (.tmp 32), (.tmp 33)]⟩ [] (
 .step ⟨(some 8), none, .mov (.tmp 34)⟩ (
 .done))
 (.stop))
 (.stop))
 (.stop))
 (.ev ⟨(some 31), none, .bslice 1 (.int .i64 0) 1 [(0, (.lit (.int .i64 (-1))))]⟩ [⟨(some 26), none, .load true 2 (.tmp 4)⟩] (
 .ev ⟨(some 30), none, .app 1 8 (.tmp 28) (.tmp 29)⟩ [⟨(some 26), none, .load true 2 (.tmp 4)⟩] (
 .ev ⟨(some 32), none, .app 1 8 (.tmp 30) (.tmp 31)⟩ [⟨(some 26), none, .load true 2 (.tmp 4)⟩] (
 .ev ⟨(some 34), none, .call (.fn 69) [(.tmp 26), (.tmp 27), (.tmp 32), (.tmp 33)]⟩ [] (
 .step ⟨(some 8), none, .mov (.tmp 34)⟩ (
 .done))
 (.stop))
 (.stop))
 (.stop))
 (.stop)))
 (.ev ⟨(some 31), none, .bslice 1 (.int .i64 0) 1 [(0, (.lit (.int .i64 (-1))))]⟩ [⟨(some 26), none, .load true 2 (.tmp 4)⟩] (
 .ev ⟨(some 28), none, .bslice 1 (.int .i64 0) 0 []⟩ [⟨(some 26), none, .load true 2 (.tmp 4)⟩] (
 .ev ⟨(some 30), none, .app 1 8 (.tmp 28) (.tmp 29)⟩ [⟨(some 26), none, .load true 2 (.tmp 4)⟩] (
 .ev ⟨(some 32), none, .app 1 8 (.tmp 30) (.tmp 31)⟩ [⟨(some 26), none, .load true 2 (.tmp 4)⟩] (
 .ev ⟨(some 34), none, .call (.fn 69) [(.tmp 26), (.tmp 27), (.tmp 32), (.tmp 33)]⟩ [] (
 .step ⟨(some 8), none, .mov (.tmp 34)⟩ (
 .done))
 (.stop))
 (.stop))
 (.stop))
 (.stop))
 (.stop))))))))
 (.ret))
 (.skip)))
 (.seq (.seq (.reg [⟨(some 10), none, .mov (.lit (.int .i64 0))⟩])
 (.block 0 (.loop (.seq (.seq (.reg [⟨(some 35), none, .mov (.tmp 10)⟩,
 ⟨(some 36), none, .faddr 0 (.tmp 4)⟩,
 ⟨(some 37), none, .load false 1 (.tmp 36)⟩,
 ⟨(some 38), none, .len (.tmp 37)⟩,
 ⟨(some 39), none, .bin .lss (.tmp 35) (.tmp 38)⟩])
 (.cond (.tmp 39) (.skip)
 (.exit 0)))
 (.seq (.block 1 (.seq (.reg [⟨(some 42), none, .load true 2 (.tmp 4)⟩,
 ⟨(some 43), none, .mov (.tmp 9)⟩,
 ⟨(some 44), none, .mov (.tmp 10)⟩,
 ⟨(some 45), none, .call (.fn 45) [(.tmp 42), (.tmp 43), (.tmp 44)]⟩,
 ⟨(some 46), none, .mov (.tmp 45)⟩,
 ⟨(some 47), (some (46, true)), .mov (.tmp 2)⟩,
 ⟨(some 48), (some (46, true)), .mov (.tmp 10)⟩,
 ⟨(some 49), (some (46, true)), .call (.fn 62) [(.tmp 47), (.tmp 48)]⟩,
 ⟨(some 50), (some (46, true)), .un .not (.tmp 49)⟩,
 ⟨(some 51), none, .pick (.tmp 46) (.tmp 50) (.lit (.bool false))⟩])
 (.cond (.tmp 51) (.draw (.step ⟨(some 52), none, .load true 2 (.tmp 4)⟩ (
 .step ⟨(some 53), none, .mov (.tmp 1)⟩ (
 .step ⟨(some 55), none, .mov (.tmp 2)⟩ (
 .step ⟨(some 57), none, .mov (.tmp 10)⟩ (
 .step ⟨(some 60), none, .mov (.tmp 3)⟩ (
 .ev ⟨(some 54), none, .bslice 1 (.int .i64 0) 0 []⟩ [⟨(some 52), none, .load true 2 (.tmp 4)⟩] (
 .ev ⟨(some 56), none, .app 1 8 (.tmp 54) (.tmp 55)⟩ [⟨(some 52), none, .load true 2 (.tmp 4)⟩] (
 .ev ⟨(some 58), none, .bslice 1 (.int .i64 0) 1 [(0, (.tmp 57))]⟩ [⟨(some 52), none, .load true 2 (.tmp 4)⟩] (
 .ev ⟨(some 59), none, .app 1 8 (.tmp 56) (.tmp 58)⟩ [⟨(some 52), none, .load true 2 (.tmp 4)⟩] (
 .ev ⟨(some 61), none, .call (.fn 69) [(.tmp 52), (.tmp 53), (.tmp 59), (.tmp 60)]⟩ [] (
 .step ⟨(some 3), none, .mov (.tmp 61)⟩ (
 .done))
 (.stop))
 (.stop))
 (.stop))
 (.ev ⟨(some 58), none, .bslice 1 (.int .i64 0) 1 [(0, (.tmp 57))]⟩ [⟨(some 52), none, .load true 2 (.tmp 4)⟩] (
 .ev ⟨(some 56), none, .app 1 8 (.tmp 54) (.tmp 55)⟩ [⟨(some 52), none, .load true 2 (.tmp 4)⟩] (
 .ev ⟨(some 59), none, .app 1 8 (.tmp 56) (.tmp 58)⟩ [⟨(some 52), none, .load true 2 (.tmp 4)⟩] (
 .ev ⟨(some 61), none, .call (.fn 69) [(.tmp 52), (.tmp 53), (.tmp 59), (.tmp 60)]⟩ [] (
 .step ⟨(some 3), none, .mov (.tmp 61)⟩ (
 .done))
 (.stop))
 (.stop))
 (.stop))
 (.stop)))
 (.ev ⟨(some 58), none, .bslice 1 (.int .i64 0) 1 [(0, (.tmp 57))]⟩ [⟨(some 52), none, .load true 2 (.tmp 4)⟩] (
 .ev ⟨(some 54), none, .bslice 1 (.int .i64 0) 0 []⟩ [⟨(some 52), none, .load true 2 (.tmp 4)⟩] (
 .ev ⟨(some 56), none, .app 1 8 (.tmp 54) (.tmp 55)⟩ [⟨(some 52), none, .load true 2 (.tmp 4)⟩] (
 .ev ⟨(some 59), none, .app 1 8 (.tmp 56) (.tmp 58)⟩ [⟨(some 52), none, .load true 2 (.tmp 4)⟩] (
 .ev ⟨(some 61), none, .call (.fn 69) [(.tmp 52), (.tmp 53), (.tmp 59), (.tmp 60)]⟩ [] (
 .step ⟨(some 3), none, .mov (.tmp 61)⟩ (
 .done))
 (.stop))
 (.stop))
 (.stop))
 (.stop))
 (.stop)))))))))
 (.skip))))
 (.reg [⟨(some 40), none, .mov (.tmp 10)⟩,
 ⟨(some 41), none, .bin .add (.tmp 40) (.lit (.int .i64 1))⟩,
 ⟨(some 10), none, .mov (.tmp 41)⟩]))))))
 (.seq (.reg [⟨(some 62), none, .mov (.tmp 3)⟩,
 ⟨(some 8), none, .mov (.tmp 62)⟩])
 (.ret))))))
theorem k69 : FnC Tryz.prog 69 63 [] [] [.tmp 8] c69 4 := ⟨Tryz.f69, _, Tryz.func69, rfl, by decide, rfl, by decide, by kernel_rfl, by kernel_rfl⟩
/-- dipworks/dipworksref07.Dial -/
def c78 : AC :=
 .seq (.reg [⟨(some 3), none, .box (.tmp 0)⟩,
 ⟨(some 6), none, .mov (.lit (.int .i64 0))⟩])
 (.seq (.reg [⟨(some 8), none, .mov (.tmp 1)⟩,
 ⟨(some 9), none, .mov (.tmp 2)⟩,
 ⟨(some 10), none, .mov (.tmp 1)⟩,
 ⟨(some 11), none, .faddr 0 (.tmp 3)⟩,
 ⟨(some 12), none, .load false 1 (.tmp 11)⟩,
 ⟨(some 13), none, .bin .sub (.tmp 10) (.tmp 12)⟩,
 ⟨(some 14), none, .bin .mul (.tmp 9) (.tmp 13)⟩,
 ⟨(some 15), none, .call (.fn 100) [(.tmp 14)]⟩,
 ⟨(some 16), none, .bin .add (.tmp 8) (.tmp 15)⟩,
 ⟨(some 17), none, .bin .rem (.tmp 16) (.lit (.int .i64 720))⟩,
 ⟨(some 7), none, .mov (.tmp 17)⟩])
 (.seq (.seq (.reg [⟨(some 18), none, .mov (.tmp 7)⟩,
 ⟨(some 19), none, .bin .lss (.tmp 18) (.lit (.int .i64 0))⟩])
 (.cond (.tmp 19) (.reg [⟨(some 20), none, .mov (.tmp 7)⟩,
 ⟨(some 21), none, .bin .add (.tmp 20) (.lit (.int .i64 720))⟩,
 ⟨(some 7), none, .mov (.tmp 21)⟩])
 (.skip)))
 (.seq (.reg [⟨(some 22), none, .mov (.tmp 7)⟩,
 ⟨(some 6), none, .mov (.tmp 22)⟩])
 (.ret))))
theorem k78 : FnC Tryz.prog 78 23 [] [] [.tmp 6] c78 3 := ⟨Tryz.f78, _, Tryz.func78, rfl, by decide, rfl, by decide, by kernel_rfl, by kernel_rfl⟩
/-- dipworks/dipworksref07.down -/
def c100 : AC :=
 .seq (.reg [⟨(some 2), none, .mov (.lit (.int .i64 0))⟩])
 (.seq (.seq (.reg [⟨(some 3), none, .mov (.tmp 0)⟩,
 ⟨(some 4), none, .bin .geq (.tmp 3) (.lit (.int .i64 0))⟩])
 (.cond (.tmp 4) (.seq (.reg [⟨(some 5), none, .mov (.tmp 0)⟩,
 ⟨(some 6), none, .bin .quo (.tmp 5) (.lit (.int .i64 60))⟩,
 ⟨(some 2), none, .mov (.tmp 6)⟩])
 (.ret))
 (.skip)))
 (.seq (.reg [⟨(some 7), none, .mov (.tmp 0)⟩,
 ⟨(some 8), none, .bin .sub (.lit (.int .i64 59)) (.tmp 7)⟩,
 ⟨(some 9), none, .bin .quo (.tmp 8) (.lit (.int .i64 60))⟩,
 ⟨(some 10), none, .un .neg (.tmp 9)⟩,
 ⟨(some 2), none, .mov (.tmp 10)⟩])
 (.ret)))
theorem k100 : FnC Tryz.prog 100 11 [] [] [.tmp 2] c100 1 := ⟨Tryz.f100, _, Tryz.func100, rfl, by decide, rfl, by decide, by kernel_rfl, by kernel_rfl⟩
end Go.Proofs.YtnmmhkkmejbckaaGreatDoor

/- The document's small functions: what a watch shows, whose a find can be. -/
namespace Go.Proofs.YtnmmhkkmejbckaaGreatDoor
open Go Go.Ab

theorem rdown_ok (n : Int) (hn : -100000 ≤ n ∧ n ≤ 100000) : ACall Tryz.prog 100 [.t (vi n)] [] (ret (vi (n / 60))) := by
  refine ACall.walk k100 ?_
  unfold c100
  simp only [go_sem, Nat.reduceEqDiff]
  cases h : decide (n ≥ 0)
  · have hn0 : n < 0 := by have := of_decide_eq_false h; omega
    have w1 : IntKind.i64.wrap (59 - n) = 59 - n := wrap_id (by omega) (by omega)
    have t1 : (59 - n).tdiv 60 = (59 - n) / 60 := Int.tdiv_eq_ediv_of_nonneg (by omega)
    have w2 : IntKind.i64.wrap ((59 - n) / 60) = (59 - n) / 60 := wrap_id (by omega) (by omega)
    have w3 : IntKind.i64.wrap (-((59 - n) / 60)) = n / 60 := by rw [wrap_id (by omega) (by omega)]; omega
    have w4 : IntKind.i64.wrap (0 - ((59 - n) / 60)) = n / 60 := by rw [wrap_id (by omega) (by omega)]; omega
    simp only [go_sem, Nat.reduceEqDiff, Int.reduceEq, w1, t1, w2, w4]
    exact finL_ret [] ⟨rfl, rfl, rfl, rfl, _, rfl, ret_mk rfl⟩
  · have hn0 : 0 ≤ n := by have := of_decide_eq_true h; omega
    have t1 : n.tdiv 60 = n / 60 := Int.tdiv_eq_ediv_of_nonneg hn0
    have w2 : IntKind.i64.wrap (n / 60) = n / 60 := wrap_id (by omega) (by omega)
    simp only [go_sem, Nat.reduceEqDiff, Int.reduceEq, t1, w2]
    exact finL_ret [] ⟨rfl, rfl, rfl, rfl, _, rfl, ret_mk rfl⟩
theorem mul_bd {g d : Int} (hg : -10 ≤ g ∧ g ≤ 10) (hd : -1540 ≤ d ∧ d ≤ 2000) : -20000 ≤ g * d ∧ g * d ≤ 20000 := by
  have : g = -10 ∨ g = -9 ∨ g = -8 ∨ g = -7 ∨ g = -6 ∨ g = -5 ∨ g = -4 ∨ g = -3 ∨ g = -2 ∨ g = -1 ∨ g = 0 ∨ g = 1 ∨ g = 2 ∨ g = 3 ∨ g = 4 ∨ g = 5 ∨ g = 6 ∨ g = 7 ∨ g = 8 ∨ g = 9 ∨ g = 10 := by omega
  rcases this with rfl | rfl | rfl | rfl | rfl | rfl | rfl | rfl | rfl | rfl | rfl | rfl | rfl | rfl | rfl | rfl | rfl | rfl | rfl | rfl | rfl <;> omega
theorem tmod720 (n : Int) : (n.tmod 720 = n % 720 ∨ (n.tmod 720 < 0 ∧ n.tmod 720 + 720 = n % 720)) ∧ -720 < n.tmod 720 ∧ n.tmod 720 < 720 := by
  by_cases h : 0 ≤ n
  · rw [Int.tmod_eq_emod_of_nonneg h]
    omega
  · obtain ⟨k, rfl⟩ : ∃ k : Int, n = -k := ⟨-n, by omega⟩
    have hk : k.tmod 720 = k % 720 := Int.tmod_eq_emod_of_nonneg (by omega)
    rw [Int.neg_tmod, hk]
    omega
theorem rDial_ok (o : Ow) (m g : Int) (h1 : 0 ≤ o.set_ ∧ o.set_ ≤ 1440) (hm : 0 ≤ m ∧ m ≤ 1440) (hg : -10 ≤ g ∧ g ≤ 10) : ACall Tryz.prog 78 [.t (tOw o), .t (vi m), .t (vi g)] [] (ret (vi (dialI o m g))) := by
  have hb := mul_bd hg (d := m - o.set_) (by omega)
  refine ACall.walk k78 ?_
  have hd : dialI o m g = (m + g * (m - o.set_) / 60) % 720 := rfl
  have w1 : IntKind.i64.wrap (m - o.set_) = m - o.set_ := wrap_id (by omega) (by omega)
  unfold c78 tOw
  generalize hP : g * (m - o.set_) = P at *
  have w2 : IntKind.i64.wrap P = P := wrap_id (by omega) (by omega)
  have q := rdown_ok P (by omega)
  simp only [go_sem, Nat.reduceEqDiff, Nat.reduceAdd, Nat.reduceLeDiff, w1, hP, w2]
  refine ACallL.quiet1 q rfl rfl rfl ?_
  generalize hQ : P / 60 = Q at *
  have w3 : IntKind.i64.wrap (m + Q) = m + Q := wrap_id (by omega) (by omega)
  obtain ⟨tt, tb⟩ := tmod720 (m + Q)
  have w4 : IntKind.i64.wrap ((m + Q).tmod 720) = (m + Q).tmod 720 := wrap_id (by omega) (by omega)
  have w5 : IntKind.i64.wrap ((m + Q).tmod 720 + 720) = (m + Q).tmod 720 + 720 := wrap_id (by omega) (by omega)
  rw [hd]
  cases h : decide ((m + Q).tmod 720 < 0)
  · have h0 : ¬ (m + Q).tmod 720 < 0 := of_decide_eq_false h
    have e1 : (m + Q) % 720 = (m + Q).tmod 720 := by omega
    rw [e1]
    simp only [go_sem, Nat.reduceEqDiff, Int.reduceEq, w3, h]
    exact finL_ret [] ⟨rfl, rfl, rfl, rfl, _, rfl, ret_mk rfl⟩
  · have h0 : (m + Q).tmod 720 < 0 := of_decide_eq_true h
    have e1 : (m + Q) % 720 = (m + Q).tmod 720 + 720 := by omega
    rw [e1]
    simp only [go_sem, Nat.reduceEqDiff, Int.reduceEq, w3, h, w5]
    exact finL_ret [] ⟨rfl, rfl, rfl, rfl, _, rfl, ret_mk rfl⟩

set_option maxRecDepth 8000 in
theorem rSeen_ok (o : Ow) (ho : o.OK) (m lo hi : Int) (hm : 0 ≤ m ∧ m ≤ 1440) : ACall Tryz.prog 41 [.t (tOw o), .t (vi m), .t (tSp lo hi)] [] (ret (vb (seen o m lo hi))) := by
  refine ACall.walk k41 ?_
  have hg := ho.gain
  have hs := ho.set_
  unfold c41 tOw tSp
  simp only [go_sem, Nat.reduceEqDiff, Nat.reduceAdd, Nat.reduceLeDiff]
  refine awpL_loopK (o.hi + 1 - o.lo).toNat (fun j s => (∀ i : Nat, i < j → ¬ (o.set_ ≤ m ∧ wI (dialI o m (o.lo + i)) lo hi = true)) ∧ s = { env := [(7, .t (vi (o.lo + j))), (1, .t (vi m)), (3, .ptr 0 0), (5, .ptr 1 0)], σ := [.cells [.t (vi o.set_), .t (vi o.lo), .t (vi o.hi), .t (vi o.huts)], .cells [.t (vi lo), .t (vi hi)]] })
    ⟨_, Sub.gc [0, 1] [7, 1, 3, 5] rfl rfl, (fun i hi => by omega), St.gc_mk (by simp only [List.map_cons, List.map_nil, lk, Nat.reduceEqDiff, reduceIte, Int.add_zero, Int.natCast_zero]; rfl) rfl rfl rfl⟩ ?_
  rintro j s hj ⟨hK, rfl⟩
  have hwj : IntKind.i64.wrap (o.lo + j + 1) = o.lo + ((j + 1 : Nat) : Int) := by rw [wrap_id (by omega) (by omega)]; omega
  cases g : decide (o.lo + (j : Int) ≤ o.hi)
  · have hje : j = (o.hi + 1 - o.lo).toNat := by have := of_decide_eq_false g; omega
    have hf : seen o m lo hi = false := by
      unfold seen handsL
      split
      · rename_i hsm
        rw [List.any_eq_false]
        intro x hx
        obtain ⟨y, hy, rfl⟩ := List.mem_map.1 hx
        have hy2 := mem_rngI.1 hy
        have := hK (y - o.lo).toNat (by omega)
        rw [show o.lo + ((y - o.lo).toNat : Int) = y by omega] at this
        exact fun h => this ⟨hsm, h⟩
      · rfl
    simp only [go_sem, Nat.reduceEqDiff, Nat.reduceAdd, Nat.reduceLeDiff, g]
    exact finL_ret [] ⟨rfl, rfl, rfl, rfl, _, rfl, ret_mk (by rw [hf])⟩
  have hjl : o.lo + (j : Int) ≤ o.hi := of_decide_eq_true g
  cases hsm : decide (m ≥ o.set_)
  · have hsm' : ¬ o.set_ ≤ m := by have := of_decide_eq_false hsm; omega
    simp only [go_sem, Nat.reduceEqDiff, Nat.reduceAdd, Nat.reduceLeDiff, undef, g, hsm, hwj]
    exact ⟨by omega, _, Sub.gc [0, 1] [7, 1, 3, 5] rfl rfl, (fun i _ h => hsm' h.1), St.gc_mk rfl rfl rfl rfl⟩
  have hsm' : o.set_ ≤ m := by have := of_decide_eq_true hsm; omega
  have q := rDial_ok o m (o.lo + j) hs hm (by omega)
  have q2 := rin_ok (dialI o m (o.lo + j)) lo hi
  unfold tOw at q
  simp only [go_sem, Nat.reduceEqDiff, Nat.reduceAdd, Nat.reduceLeDiff, beq_self_eq_true, g, hsm]
  refine ACallL.quiet1 q rfl rfl rfl ?_
  simp only [go_sem, Nat.reduceEqDiff, Nat.reduceAdd, Nat.reduceLeDiff, undef, beq_self_eq_true]
  refine ACallL.quiet1 q2 rfl rfl rfl ?_
  cases hb : wI (dialI o m (o.lo + j)) lo hi
  · simp only [go_sem, Nat.reduceEqDiff, Nat.reduceAdd, Nat.reduceLeDiff, undef, beq_self_eq_true, hwj]
    refine ⟨by omega, _, Sub.gc [0, 1] [7, 1, 3, 5] rfl rfl, (fun i hi h => ?_), St.gc_mk rfl rfl rfl rfl⟩
    by_cases e : i = j
    · subst e
      rw [hb] at h
      cases h.2
    · exact hK i (by omega) h
  · have ht : seen o m lo hi = true := by
      unfold seen handsL
      rw [if_pos hsm', List.any_eq_true]
      exact ⟨_, List.mem_map.2 ⟨o.lo + j, mem_rngI.2 ⟨by omega, hjl⟩, rfl⟩, hb⟩
    simp only [go_sem, Nat.reduceEqDiff, Nat.reduceAdd, Nat.reduceLeDiff, undef, beq_self_eq_true]
    exact finL_ret [] ⟨rfl, rfl, rfl, rfl, _, rfl, ret_mk (by rw [ht])⟩
theorem rHas_ok (a n : Nat) (ha : a < 1000000) (hn : n ≤ 40) : ACall Tryz.prog 58 [.t (vi a), .t (vi n)] [] (ret (vb (a.testBit n))) := by
  refine ACall.walk k58 ?_
  have q := power_ok n hn
  have hp := Nat.two_pow_pos n
  have hp40 : 2 ^ n ≤ 2 ^ 40 := Nat.pow_le_pow_right (by omega) hn
  unfold c58
  have e0 : (((2 ^ n : Nat) : Int) = 0) = False := eq_false (by omega)
  have t1 : (a : Int).tdiv ((2 ^ n : Nat) : Int) = ((a / 2 ^ n : Nat) : Int) := by rw [Int.tdiv_eq_ediv_of_nonneg (by omega)]; rfl
  have hd : a / 2 ^ n ≤ a := Nat.div_le_self _ _
  have hb : (((a / 2 ^ n % 2 : Nat) : Int) == 1) = a.testBit n := by
    rw [Nat.testBit_eq_decide_div_mod_eq, Bool.eq_iff_iff, beq_iff_eq, decide_eq_true_eq]
    omega
  generalize a / 2 ^ n = D at *
  have w1 : IntKind.i64.wrap (D : Int) = (D : Int) := wrap_id (by omega) (by omega)
  have t2 : (D : Int).tmod 2 = ((D % 2 : Nat) : Int) := mod_nat _ 2
  have h2 : D % 2 < 2 := Nat.mod_lt _ (by omega)
  have w2 : IntKind.i64.wrap ((D % 2 : Nat) : Int) = ((D % 2 : Nat) : Int) := wrap_id (by omega) (by omega)
  generalize 2 ^ n = p at *
  simp only [go_sem, Nat.reduceEqDiff]
  refine ACallL.quiet1 q rfl rfl rfl ?_
  simp only [go_sem, Nat.reduceEqDiff, Int.reduceEq, e0, t1, w1, t2, hb]
  exact finL_ret [] ⟨rfl, rfl, rfl, rfl, _, rfl, ret_mk rfl⟩
theorem rOwner_ok (w : Wa) (n : Int) (hL : Lens w) : ACall Tryz.prog 39 [.t (tWa w), .t (vi n)] [] (ret (vb (w.isO n))) := by
  refine ACall.walk k39 ?_
  have hl := hL.o
  have q := rin_ok n 0 (w.os.length - 1)
  have w1 : IntKind.i64.wrap ((w.os.length : Int) - 1) = (w.os.length : Int) - 1 := wrap_id (by omega) (by omega)
  unfold c39 tWa wa2
  simp only [go_sem, Nat.reduceEqDiff, Nat.reduceAdd, Nat.reduceLeDiff, List.length_map, w1]
  refine ACallL.quiet1 q rfl rfl rfl ?_
  simp only [go_sem, Nat.reduceEqDiff]
  exact finL_ret [] ⟨rfl, rfl, rfl, rfl, _, rfl, ret_mk rfl⟩
theorem rFind_ok (w : Wa) (n : Int) (hL : Lens w) : ACall Tryz.prog 44 [.t (tWa w), .t (vi n)] [] (ret (vb (w.isF n))) := by
  refine ACall.walk k44 ?_
  have hl := hL.f
  have q := rin_ok n 0 (w.fs.length - 1)
  have w1 : IntKind.i64.wrap ((w.fs.length : Int) - 1) = (w.fs.length : Int) - 1 := wrap_id (by omega) (by omega)
  unfold c44 tWa wa2
  simp only [go_sem, Nat.reduceEqDiff, Nat.reduceAdd, List.length_map, w1]
  refine ACallL.quiet1 q rfl rfl rfl ?_
  simp only [go_sem, Nat.reduceEqDiff]
  exact finL_ret [] ⟨rfl, rfl, rfl, rfl, _, rfl, ret_mk rfl⟩
def chkI (w : Wa) (v : Bool) : Int := if w.ok then (if v then 0 else 2) else 1
theorem rcheck_ok (w : Wa) (v : Bool) (hL : Lens w) : ACall Tryz.prog 38 [.t (tWa w), .t (vb v)] [] (ret (vi (chkI w v))) := by
  refine ACall.walk k38 ?_
  have q := rwatches_ok w hL
  unfold c38 chkI
  unfold tWa wa2 at q ⊢
  simp only [go_sem, Nat.reduceEqDiff, Nat.reduceAdd]
  refine ACallL.quiet1 q rfl rfl rfl ?_
  cases hok : w.ok
  · simp only [go_sem, Nat.reduceEqDiff, Bool.not_false]
    exact finL_ret [] ⟨rfl, rfl, rfl, rfl, _, rfl, ret_mk (by rfl)⟩
  · cases v
    · simp only [go_sem, Nat.reduceEqDiff, Bool.not_true, Bool.not_false]
      exact finL_ret [] ⟨rfl, rfl, rfl, rfl, _, rfl, ret_mk (by rfl)⟩
    · simp only [go_sem, Nat.reduceEqDiff, Bool.not_true]
      exact finL_ret [] ⟨rfl, rfl, rfl, rfl, _, rfl, ret_mk (by rfl)⟩
def stopsL (o : Ow) (f : Fi) : List Int := (rngI o.set_ f.minute).filter fun m => seen o m f.lo f.hi
theorem rngI_snoc (a : Int) (j : Nat) : rngI a (a + j) = rngI a (a + j - 1) ++ [a + j] := by
  unfold rngI
  rw [show (a + (j : Int) + 1 - a).toNat = j + 1 by omega, show (a + (j : Int) - 1 + 1 - a).toNat = j by omega, List.range_succ, List.map_append]
  rfl
set_option maxRecDepth 8000 in
theorem rStops_ok (o : Ow) (ho : o.OK) (f : Fi) (hf : f.OK) : ACall Tryz.prog 49 [.t (tOw o), .t (tFi f)] [] (res (.ret (.t (.slice 1 ((stopsL o f).map vi))))) := by
  refine ACall.walk k49 ?_
  have hs := ho.set_
  have hm := hf.minute
  unfold c49 tOw tFi
  simp only [go_sem, Nat.reduceEqDiff, Nat.reduceAdd, Nat.reduceLeDiff]
  refine awpL_loopK (f.minute + 1 - o.set_).toNat (fun j s => s = { env := [(6, .t (vi (o.set_ + j))), (2, .ptr 0 0), (3, .ptr 1 0), (5, .loc 2 ((rngI o.set_ (o.set_ + j - 1)).filter fun m => seen o m f.lo f.hi).length)], σ := [.cells [.t (vi o.set_), .t (vi o.lo), .t (vi o.hi), .t (vi o.huts)], .cells [.t (vi f.hut), .t (vi f.minute), .t (vi f.lo), .t (vi f.hi), .t (vb f.stopped)], rowI ((rngI o.set_ (o.set_ + j - 1)).filter fun m => seen o m f.lo f.hi)] })
    ⟨_, (Sub.ghost 5 1 (by decide) rfl).trans (Sub.gc [0, 1, 2] [6, 2, 3, 5] rfl rfl), ?_⟩ ?_
  · have e : rngI o.set_ (o.set_ + ((0 : Nat) : Int) - 1) = [] := by unfold rngI; rw [show (o.set_ + ((0 : Nat) : Int) - 1 + 1 - o.set_).toNat = 0 by omega]; rfl
    rw [e, show o.set_ + ((0 : Nat) : Int) = o.set_ by omega]
    exact St.gc_mk rfl rfl rfl rfl
  rintro j s hj rfl
  have hwj : IntKind.i64.wrap (o.set_ + j + 1) = o.set_ + ((j + 1 : Nat) : Int) := by rw [wrap_id (by omega) (by omega)]; omega
  have hlen : ((rngI o.set_ (o.set_ + j - 1)).filter fun m => seen o m f.lo f.hi).length ≤ j := by
    refine Nat.le_trans (List.length_filter_le _ _) ?_
    rw [rngI_len]; omega
  cases g : decide (o.set_ + (j : Int) ≤ f.minute)
  · have hje : rngI o.set_ (o.set_ + j - 1) = rngI o.set_ f.minute := by
      have := of_decide_eq_false g
      unfold rngI
      rw [show (o.set_ + (j : Int) - 1 + 1 - o.set_).toNat = (f.minute + 1 - o.set_).toNat by omega]
    rw [hje] at hlen ⊢
    unfold rowI
    simp only [go_sem, Nat.reduceEqDiff, Nat.reduceAdd, Nat.reduceLeDiff, g]
    refine finL_ret [] ⟨rfl, rfl, rfl, rfl, _, rfl, res_mk ?_⟩
    refine congrArg Out.ret ?_
    unfold stopsL
    exact gc_loc (n := 10) rfl rfl (by rw [List.length_map])
  have hjl : o.set_ + (j : Int) ≤ f.minute := of_decide_eq_true g
  have hst : rngI o.set_ (o.set_ + ((j + 1 : Nat) : Int) - 1) = rngI o.set_ (o.set_ + j - 1) ++ [o.set_ + (j : Int)] := by
    rw [show o.set_ + ((j + 1 : Nat) : Int) - 1 = o.set_ + (j : Int) by omega]
    exact rngI_snoc _ _
  rw [hst, List.filter_append]
  have q := rSeen_ok o ho (o.set_ + j) f.lo f.hi (by omega)
  unfold tOw tSp at q
  generalize (rngI o.set_ (o.set_ + (j : Int) - 1)).filter (fun m => seen o m f.lo f.hi) = P at *
  have x1 : (P.length + 1 ≤ maxLen) = True := eq_true (by unfold maxLen; omega)
  have x2 : ((P.length + 1) * 8 ≤ 140737488355328) = True := eq_true (by omega)
  have hone : ([o.set_ + (j : Int)].filter fun m => seen o m f.lo f.hi) = if seen o (o.set_ + j) f.lo f.hi then [o.set_ + (j : Int)] else [] := by
    rw [List.filter_cons, List.filter_nil]
  rw [hone]
  have happ : ((P.map vi).map E.t) ++ [E.t (vi (o.set_ + (j : Int)))] = (((P ++ [o.set_ + (j : Int)]).map vi).map E.t) := by simp
  have hl1 : (P ++ [o.set_ + (j : Int)]).length = P.length + 1 := by simp
  unfold rowI
  simp only [go_sem, Nat.reduceEqDiff, Nat.reduceAdd, Nat.reduceLeDiff, g]
  refine ACallL.quiet1 q rfl rfl rfl ?_
  cases hb : seen o (o.set_ + j) f.lo f.hi
  · simp only [go_sem, Nat.reduceEqDiff, hwj, if_false, List.append_nil]
    exact ⟨by omega, _, Sub.gc [0, 1, 2] [6, 2, 3, 5] rfl rfl, St.gc_mk rfl (by unfold σgc; simp only [List.map_cons, List.map_nil, List.getD_cons_zero, List.getD_cons_succ, AO.gc, gc_row]; rfl) rfl rfl⟩
  · simp only [go_sem, Nat.reduceEqDiff, Nat.reduceAdd, Nat.reduceLT, hwj, if_true, List.length_map, x1, x2, happ, hl1]
    exact ⟨by omega, _, Sub.gc [0, 1, 2] [6, 2, 3, 5] rfl rfl, St.gc_mk rfl (by unfold σgc; simp only [List.map_cons, List.map_nil, List.getD_cons_zero, List.getD_cons_succ, AO.gc, gc_row]; rfl) rfl rfl⟩
theorem fitB_stops (o : Ow) (f : Fi) : fitB o f = (hutB o f && if f.stopped then decide (0 < (stopsL o f).length) else seen o f.minute f.lo f.hi) := by
  rw [fitB_split]
  congr 1
  unfold coreB stopsL
  cases f.stopped
  · simp only [Bool.false_eq_true, if_false, List.filter_cons, List.filter_nil]
    cases seen o f.minute f.lo f.hi <;> rfl
  · simp only [if_true]
    cases h : (rngI o.set_ f.minute).filter (fun m => seen o m f.lo f.hi) <;> rfl
set_option maxRecDepth 8000 in
set_option maxHeartbeats 4000000 in
theorem rFit_ok (w : Wa) (hw : w.OK) {i k : Nat} {f : Fi} {o : Ow} (hf : w.fs[i]? = some f) (ho : w.os[k]? = some o) : ACall Tryz.prog 45 [.t (tWa w), .t (vi i), .t (vi k)] [] (ret (vb (fitB o f))) := by
  refine ACall.walk k45 ?_
  have hoo := hw.os o (List.mem_of_getElem? ho)
  have hff := hw.fs f (List.mem_of_getElem? hf)
  have hh := hoo.huts
  have hhf := hff.hut
  obtain ⟨H, hH⟩ : ∃ H : Nat, o.huts = H := ⟨o.huts.toNat, by omega⟩
  obtain ⟨N, hN⟩ : ∃ N : Nat, f.hut = N := ⟨f.hut.toNat, by omega⟩
  have q1 := rHas_ok H N (by omega) (by omega)
  have q2 := rStops_ok o hoo f hff
  have q3 := rSeen_ok o hoo f.minute f.lo f.hi hff.minute
  have hhb : hutB o f = H.testBit N := by unfold hutB; rw [hH, hN]; rfl
  have hto : tOw o = .agg [vi o.set_, vi o.lo, vi o.hi, vi H] := by unfold tOw; rw [hH]
  have htf : tFi f = .agg [vi N, vi f.minute, vi f.lo, vi f.hi, vb f.stopped] := by unfold tFi; rw [hN]
  have hi0 : ((i : Int) < 0) = False := eq_false (by omega)
  have hk0 : ((k : Int) < 0) = False := eq_false (by omega)
  rw [fitB_stops, hhb]
  have hsl : (stopsL o f).length ≤ 1441 := by
    unfold stopsL
    refine Nat.le_trans (List.length_filter_le _ _) ?_
    have := hoo.set_
    have := hff.minute
    rw [rngI_len]; omega
  generalize stopsL o f = L at *
  have hd : decide ((L.length : Int) > 0) = decide (0 < L.length) := decide_eq_decide.2 (by omega)
  rw [hto, htf] at q2
  rw [hto] at q3
  unfold tSp at q3
  unfold c45 tWa wa2
  simp only [go_sem, Nat.reduceEqDiff, Nat.reduceAdd, Nat.reduceLeDiff, List.getElem?_map, hf, ho, Option.map_some, hto, htf]
  repeat' (first | refine AndL.mk ?_ ?_ | simp only [go_sem, Nat.reduceEqDiff, Nat.reduceAdd, Nat.reduceLeDiff, undef, List.getElem?_map, hf, ho, Option.map_some, hto, htf])
  all_goals
    refine ACallL.quiet1 q1 rfl rfl rfl ?_
    cases hb : H.testBit N
    · simp only [go_sem, Nat.reduceEqDiff, Bool.not_false]
      exact finL_ret [] ⟨rfl, rfl, rfl, rfl, _, rfl, ret_mk (by rfl)⟩
    cases hs : f.stopped
    · simp only [go_sem, Nat.reduceEqDiff, Nat.reduceAdd, Nat.reduceLeDiff, Bool.not_true]
      refine ACallL.quiet1 q3 rfl rfl rfl ?_
      simp only [go_sem, Nat.reduceEqDiff]
      exact finL_ret [] ⟨rfl, rfl, rfl, rfl, _, rfl, ret_mk (by rfl)⟩
    · rw [hs] at q2
      simp only [go_sem, Nat.reduceEqDiff, Nat.reduceAdd, Bool.not_true]
      refine ACallL.fresh1 q2 rfl ?_
      simp only [go_sem, Nat.reduceEqDiff, List.length_map, hd]
      exact finL_ret [] ⟨rfl, rfl, rfl, rfl, _, rfl, ret_mk (by rfl)⟩
end Go.Proofs.YtnmmhkkmejbckaaGreatDoor
