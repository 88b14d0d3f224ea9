/- Proved here: laws that the statements need (WzC1s, WzE, WzF, WzC1p, WzG). No conditions but those that each law states. -/
import Derived.Test.YtnmmhkkmejbckaaGreatDoorFL
import Derived.Test.YtnmmhkkmejbckaaGreatDoorFP
import Derived.Test.YtnmmhkkmejbckaaGreatDoorProg
import Derived.Test.YtnmmhkkmejbckaaGreatDoorYA
import Derived.Test.YtnmmhkkmejbckaaGreatDoorFM

set_option linter.unusedSimpArgs false
set_option linter.unusedVariables false

/- Compiled code of functions, printed by program; each is checked to be the program's. No conditions. -/
namespace Go.Proofs.YtnmmhkkmejbckaaGreatDoor
open Go Go.Ab
/-- slices.Sort[[]int,int] -/
def c36 : AC :=
 .seq (.reg [⟨(some 3), none, .mov (.tmp 0)⟩,
 ⟨(some 4), none, .len (.tmp 3)⟩,
 ⟨(some 2), none, .mov (.tmp 4)⟩])
 (.reg [⟨(some 5), none, .mov (.tmp 0)⟩,
 ⟨(some 6), none, .mov (.tmp 2)⟩,
 ⟨(some 7), none, .mov (.tmp 2)⟩,
 ⟨(some 8), none, .conv .u64 (.tmp 7)⟩,
 ⟨(some 9), none, .call (.fn 77) [(.tmp 8)]⟩,
 ⟨(some 10), none, .call (.fn 76) [(.tmp 5), (.lit (.int .i64 0)), (.tmp 6), (.tmp 9)]⟩])
theorem k36 : FnC Tryz.prog 36 11 [] [] [] c36 1 := ⟨Tryz.f36, _, Tryz.func36, rfl, by decide, rfl, by decide, by kernel_rfl, by kernel_rfl⟩
/-- slices.Compact[[]int,int] -/
def c37 : AC :=
 .seq (.reg [⟨(some 2), none, .mov (.lit (.slice none 0 0))⟩])
 (.seq (.seq (.reg [⟨(some 6), none, .mov (.tmp 0)⟩,
 ⟨(some 7), none, .len (.tmp 6)⟩,
 ⟨(some 8), none, .bin .lss (.tmp 7) (.lit (.int .i64 2))⟩])
 (.cond (.tmp 8) (.seq (.reg [⟨(some 9), none, .mov (.tmp 0)⟩,
 ⟨(some 2), none, .mov (.tmp 9)⟩])
 (.ret))
 (.skip)))
 (.seq (.seq (.reg [⟨(some 3), none, .mov (.lit (.int .i64 1))⟩])
 (.block 0 (.loop (.seq (.seq (.reg [⟨(some 10), none, .mov (.tmp 3)⟩,
 ⟨(some 11), none, .mov (.tmp 0)⟩,
 ⟨(some 12), none, .len (.tmp 11)⟩,
 ⟨(some 13), none, .bin .lss (.tmp 10) (.tmp 12)⟩])
 (.cond (.tmp 13) (.skip)
 (.exit 0)))
 (.seq (.block 1 (.seq (.draw (.step ⟨(some 16), none, .mov (.tmp 0)⟩ (
 .step ⟨(some 17), none, .mov (.tmp 3)⟩ (
 .step ⟨(some 18), none, .iaddr 1 (.tmp 16) (.tmp 17)⟩ (
 .step ⟨(some 19), none, .load false 1 (.tmp 18)⟩ (
 .step ⟨(some 20), none, .mov (.tmp 0)⟩ (
 .step ⟨(some 21), none, .mov (.tmp 3)⟩ (
 .step ⟨(some 22), none, .bin .sub (.tmp 21) (.lit (.int .i64 1))⟩ (
 .step ⟨(some 23), none, .iaddr 1 (.tmp 20) (.tmp 22)⟩ (
 .step ⟨(some 24), none, .load false 1 (.tmp 23)⟩ (
 .step ⟨(some 25), none, .bin .eql (.tmp 19) (.tmp 24)⟩ (
 .done))))))))))))
 (.cond (.tmp 25) (.seq (.reg [⟨(some 26), none, .mov (.tmp 0)⟩,
 ⟨(some 27), none, .mov (.tmp 3)⟩,
 ⟨(some 28), none, .slc none 1 (.tmp 26) (some (.tmp 27)) none⟩,
 ⟨(some 4), none, .mov (.tmp 28)⟩])
 (.seq (.seq (.reg [⟨(some 5), none, .mov (.lit (.int .i64 1))⟩])
 (.block 2 (.loop (.seq (.seq (.reg [⟨(some 29), none, .mov (.tmp 5)⟩,
 ⟨(some 30), none, .mov (.tmp 4)⟩,
 ⟨(some 31), none, .len (.tmp 30)⟩,
 ⟨(some 32), none, .bin .lss (.tmp 29) (.tmp 31)⟩])
 (.cond (.tmp 32) (.skip)
 (.exit 2)))
 (.seq (.block 3 (.seq (.draw (.step ⟨(some 35), none, .mov (.tmp 4)⟩ (
 .step ⟨(some 36), none, .mov (.tmp 5)⟩ (
 .step ⟨(some 37), none, .iaddr 1 (.tmp 35) (.tmp 36)⟩ (
 .step ⟨(some 38), none, .load false 1 (.tmp 37)⟩ (
 .step ⟨(some 39), none, .mov (.tmp 4)⟩ (
 .step ⟨(some 40), none, .mov (.tmp 5)⟩ (
 .step ⟨(some 41), none, .bin .sub (.tmp 40) (.lit (.int .i64 1))⟩ (
 .step ⟨(some 42), none, .iaddr 1 (.tmp 39) (.tmp 41)⟩ (
 .step ⟨(some 43), none, .load false 1 (.tmp 42)⟩ (
 .step ⟨(some 44), none, .bin .neq (.tmp 38) (.tmp 43)⟩ (
 .done))))))))))))
 (.cond (.tmp 44) (.seq (.reg [⟨(some 45), none, .mov (.tmp 0)⟩,
 ⟨(some 46), none, .mov (.tmp 3)⟩,
 ⟨(some 47), none, .mov (.tmp 4)⟩,
 ⟨(some 48), none, .mov (.tmp 5)⟩,
 ⟨(some 49), none, .iaddr 1 (.tmp 47) (.tmp 48)⟩,
 ⟨(some 50), none, .load false 1 (.tmp 49)⟩,
 ⟨(some 51), none, .iaddr 1 (.tmp 45) (.tmp 46)⟩,
 ⟨none, none, .store 1 (.tmp 51) (.tmp 50)⟩])
 (.reg [⟨(some 52), none, .mov (.tmp 3)⟩,
 ⟨(some 53), none, .bin .add (.tmp 52) (.lit (.int .i64 1))⟩,
 ⟨(some 3), none, .mov (.tmp 53)⟩]))
 (.skip))))
 (.reg [⟨(some 33), none, .mov (.tmp 5)⟩,
 ⟨(some 34), none, .bin .add (.tmp 33) (.lit (.int .i64 1))⟩,
 ⟨(some 5), none, .mov (.tmp 34)⟩]))))))
 (.seq (.reg [⟨(some 54), none, .mov (.tmp 0)⟩,
 ⟨(some 55), none, .mov (.tmp 3)⟩,
 ⟨(some 56), none, .slc none 1 (.tmp 54) (some (.tmp 55)) none⟩,
 ⟨none, none, .clr 1 (.int .i64 0) (.tmp 56)⟩])
 (.seq (.reg [⟨(some 57), none, .mov (.tmp 0)⟩,
 ⟨(some 58), none, .mov (.tmp 3)⟩,
 ⟨(some 59), none, .slc none 1 (.tmp 57) none (some (.tmp 58))⟩,
 ⟨(some 2), none, .mov (.tmp 59)⟩])
 (.ret)))))
 (.skip))))
 (.reg [⟨(some 14), none, .mov (.tmp 3)⟩,
 ⟨(some 15), none, .bin .add (.tmp 14) (.lit (.int .i64 1))⟩,
 ⟨(some 3), none, .mov (.tmp 15)⟩]))))))
 (.seq (.reg [⟨(some 60), none, .mov (.tmp 0)⟩,
 ⟨(some 2), none, .mov (.tmp 60)⟩])
 (.ret))))
theorem k37 : FnC Tryz.prog 37 61 [] [] [.tmp 2] c37 1 := ⟨Tryz.f37, _, Tryz.func37, rfl, by decide, rfl, by decide, by kernel_rfl, by kernel_rfl⟩
/-- slices.pdqsortOrdered[int] -/
def c76 : AC :=
 .seq (.reg [⟨(some 8), none, .mov (.lit (.bool true))⟩])
 (.seq (.reg [⟨(some 9), none, .mov (.lit (.bool true))⟩])
 (.block 0 (.loop (.block 1 (.seq (.reg [⟨(some 19), none, .mov (.tmp 2)⟩,
 ⟨(some 20), none, .mov (.tmp 1)⟩,
 ⟨(some 21), none, .bin .sub (.tmp 19) (.tmp 20)⟩,
 ⟨(some 10), none, .mov (.tmp 21)⟩])
 (.seq (.seq (.reg [⟨(some 22), none, .mov (.tmp 10)⟩,
 ⟨(some 23), none, .bin .leq (.tmp 22) (.lit (.int .i64 12))⟩])
 (.cond (.tmp 23) (.seq (.reg [⟨(some 24), none, .mov (.tmp 0)⟩,
 ⟨(some 25), none, .mov (.tmp 1)⟩,
 ⟨(some 26), none, .mov (.tmp 2)⟩,
 ⟨(some 27), none, .call (.fn 89) [(.tmp 24), (.tmp 25), (.tmp 26)]⟩])
 (.ret))
 (.skip)))
 (.seq (.seq (.reg [⟨(some 28), none, .mov (.tmp 3)⟩,
 ⟨(some 29), none, .bin .eql (.tmp 28) (.lit (.int .i64 0))⟩])
 (.cond (.tmp 29) (.seq (.reg [⟨(some 30), none, .mov (.tmp 0)⟩,
 ⟨(some 31), none, .mov (.tmp 1)⟩,
 ⟨(some 32), none, .mov (.tmp 2)⟩,
 ⟨(some 33), none, .call (.fn 90) [(.tmp 30), (.tmp 31), (.tmp 32)]⟩])
 (.ret))
 (.skip)))
 (.seq (.seq (.reg [⟨(some 34), none, .mov (.tmp 8)⟩,
 ⟨(some 35), none, .un .not (.tmp 34)⟩])
 (.cond (.tmp 35) (.seq (.reg [⟨(some 36), none, .mov (.tmp 0)⟩,
 ⟨(some 37), none, .mov (.tmp 1)⟩,
 ⟨(some 38), none, .mov (.tmp 2)⟩,
 ⟨(some 39), none, .call (.fn 91) [(.tmp 36), (.tmp 37), (.tmp 38)]⟩])
 (.reg [⟨(some 40), none, .mov (.tmp 3)⟩,
 ⟨(some 41), none, .bin .sub (.tmp 40) (.lit (.int .i64 1))⟩,
 ⟨(some 3), none, .mov (.tmp 41)⟩]))
 (.skip)))
 (.seq (.reg [⟨(some 43), none, .mov (.tmp 0)⟩,
 ⟨(some 44), none, .mov (.tmp 1)⟩,
 ⟨(some 45), none, .mov (.tmp 2)⟩,
 ⟨(some 46), none, .call (.fn 92) [(.tmp 43), (.tmp 44), (.tmp 45)]⟩,
 ⟨(some 42), none, .mov (.tmp 46)⟩,
 ⟨(some 47), none, .ext (.tmp 42) 0⟩,
 ⟨(some 48), none, .ext (.tmp 42) 1⟩,
 ⟨(some 11), none, .mov (.tmp 47)⟩,
 ⟨(some 12), none, .mov (.tmp 48)⟩])
 (.seq (.seq (.reg [⟨(some 49), none, .mov (.tmp 12)⟩,
 ⟨(some 50), none, .bin .eql (.tmp 49) (.lit (.int .i64 2))⟩])
 (.cond (.tmp 50) (.seq (.reg [⟨(some 51), none, .mov (.tmp 0)⟩,
 ⟨(some 52), none, .mov (.tmp 1)⟩,
 ⟨(some 53), none, .mov (.tmp 2)⟩,
 ⟨(some 54), none, .call (.fn 93) [(.tmp 51), (.tmp 52), (.tmp 53)]⟩])
 (.seq (.reg [⟨(some 55), none, .mov (.tmp 2)⟩,
 ⟨(some 56), none, .bin .sub (.tmp 55) (.lit (.int .i64 1))⟩,
 ⟨(some 57), none, .mov (.tmp 11)⟩,
 ⟨(some 58), none, .mov (.tmp 1)⟩,
 ⟨(some 59), none, .bin .sub (.tmp 57) (.tmp 58)⟩,
 ⟨(some 60), none, .bin .sub (.tmp 56) (.tmp 59)⟩,
 ⟨(some 11), none, .mov (.tmp 60)⟩])
 (.reg [⟨(some 12), none, .mov (.lit (.int .i64 1))⟩])))
 (.skip)))
 (.seq (.seq (.reg [⟨(some 61), none, .mov (.tmp 8)⟩,
 ⟨(some 62), none, .mov (.tmp 61)⟩,
 ⟨(some 63), (some (62, true)), .mov (.tmp 9)⟩,
 ⟨(some 64), none, .pick (.tmp 62) (.tmp 63) (.lit (.bool false))⟩,
 ⟨(some 65), none, .mov (.tmp 64)⟩,
 ⟨(some 66), (some (65, true)), .mov (.tmp 12)⟩,
 ⟨(some 67), (some (65, true)), .bin .eql (.tmp 66) (.lit (.int .i64 1))⟩,
 ⟨(some 68), none, .pick (.tmp 65) (.tmp 67) (.lit (.bool false))⟩])
 (.cond (.tmp 68) (.seq (.reg [⟨(some 69), none, .mov (.tmp 0)⟩,
 ⟨(some 70), none, .mov (.tmp 1)⟩,
 ⟨(some 71), none, .mov (.tmp 2)⟩,
 ⟨(some 72), none, .call (.fn 94) [(.tmp 69), (.tmp 70), (.tmp 71)]⟩])
 (.cond (.tmp 72) (.ret)
 (.skip)))
 (.skip)))
 (.seq (.seq (.draw (.step ⟨(some 73), none, .mov (.tmp 1)⟩ (
 .step ⟨(some 74), none, .bin .gtr (.tmp 73) (.lit (.int .i64 0))⟩ (
 .step ⟨(some 75), none, .mov (.tmp 74)⟩ (
 .step ⟨(some 76), (some (75, true)), .mov (.tmp 0)⟩ (
 .step ⟨(some 77), (some (75, true)), .mov (.tmp 1)⟩ (
 .step ⟨(some 78), (some (75, true)), .bin .sub (.tmp 77) (.lit (.int .i64 1))⟩ (
 .step ⟨(some 79), (some (75, true)), .iaddr 1 (.tmp 76) (.tmp 78)⟩ (
 .step ⟨(some 80), (some (75, true)), .load false 1 (.tmp 79)⟩ (
 .step ⟨(some 81), (some (75, true)), .mov (.tmp 0)⟩ (
 .step ⟨(some 82), (some (75, true)), .mov (.tmp 11)⟩ (
 .step ⟨(some 83), (some (75, true)), .iaddr 1 (.tmp 81) (.tmp 82)⟩ (
 .step ⟨(some 84), (some (75, true)), .load false 1 (.tmp 83)⟩ (
 .ev ⟨(some 85), (some (75, true)), .call (.fn 95) [(.tmp 80), (.tmp 84)]⟩ [⟨(some 83), (some (75, true)), .iaddr 1 (.tmp 81) (.tmp 82)⟩, ⟨(some 79), (some (75, true)), .iaddr 1 (.tmp 76) (.tmp 78)⟩] (
 .step ⟨(some 86), (some (75, true)), .un .not (.tmp 85)⟩ (
 .step ⟨(some 87), none, .pick (.tmp 75) (.tmp 86) (.lit (.bool false))⟩ (
 .done)))
 (.stop)))))))))))))))
 (.cond (.tmp 87) (.seq (.reg [⟨(some 88), none, .mov (.tmp 0)⟩,
 ⟨(some 89), none, .mov (.tmp 1)⟩,
 ⟨(some 90), none, .mov (.tmp 2)⟩,
 ⟨(some 91), none, .mov (.tmp 11)⟩,
 ⟨(some 92), none, .call (.fn 96) [(.tmp 88), (.tmp 89), (.tmp 90), (.tmp 91)]⟩,
 ⟨(some 13), none, .mov (.tmp 92)⟩])
 (.seq (.reg [⟨(some 93), none, .mov (.tmp 13)⟩,
 ⟨(some 1), none, .mov (.tmp 93)⟩])
 (.exit 1)))
 (.skip)))
 (.seq (.reg [⟨(some 95), none, .mov (.tmp 0)⟩,
 ⟨(some 96), none, .mov (.tmp 1)⟩,
 ⟨(some 97), none, .mov (.tmp 2)⟩,
 ⟨(some 98), none, .mov (.tmp 11)⟩,
 ⟨(some 99), none, .call (.fn 97) [(.tmp 95), (.tmp 96), (.tmp 97), (.tmp 98)]⟩,
 ⟨(some 94), none, .mov (.tmp 99)⟩,
 ⟨(some 100), none, .ext (.tmp 94) 0⟩,
 ⟨(some 101), none, .ext (.tmp 94) 1⟩,
 ⟨(some 14), none, .mov (.tmp 100)⟩,
 ⟨(some 15), none, .mov (.tmp 101)⟩])
 (.seq (.reg [⟨(some 102), none, .mov (.tmp 15)⟩,
 ⟨(some 9), none, .mov (.tmp 102)⟩])
 (.seq (.reg [⟨(some 103), none, .mov (.tmp 14)⟩,
 ⟨(some 104), none, .mov (.tmp 1)⟩,
 ⟨(some 105), none, .bin .sub (.tmp 103) (.tmp 104)⟩,
 ⟨(some 106), none, .mov (.tmp 2)⟩,
 ⟨(some 107), none, .mov (.tmp 14)⟩,
 ⟨(some 108), none, .bin .sub (.tmp 106) (.tmp 107)⟩,
 ⟨(some 16), none, .mov (.tmp 105)⟩,
 ⟨(some 17), none, .mov (.tmp 108)⟩])
 (.seq (.reg [⟨(some 109), none, .mov (.tmp 10)⟩,
 ⟨(some 110), none, .bin .quo (.tmp 109) (.lit (.int .i64 8))⟩,
 ⟨(some 18), none, .mov (.tmp 110)⟩])
 (.seq (.reg [⟨(some 111), none, .mov (.tmp 16)⟩,
 ⟨(some 112), none, .mov (.tmp 17)⟩,
 ⟨(some 113), none, .bin .lss (.tmp 111) (.tmp 112)⟩])
 (.cond (.tmp 113) (.seq (.reg [⟨(some 114), none, .mov (.tmp 16)⟩,
 ⟨(some 115), none, .mov (.tmp 18)⟩,
 ⟨(some 116), none, .bin .geq (.tmp 114) (.tmp 115)⟩,
 ⟨(some 8), none, .mov (.tmp 116)⟩])
 (.seq (.reg [⟨(some 117), none, .mov (.tmp 0)⟩,
 ⟨(some 118), none, .mov (.tmp 1)⟩,
 ⟨(some 119), none, .mov (.tmp 14)⟩,
 ⟨(some 120), none, .mov (.tmp 3)⟩,
 ⟨(some 121), none, .call (.fn 76) [(.tmp 117), (.tmp 118), (.tmp 119), (.tmp 120)]⟩])
 (.reg [⟨(some 122), none, .mov (.tmp 14)⟩,
 ⟨(some 123), none, .bin .add (.tmp 122) (.lit (.int .i64 1))⟩,
 ⟨(some 1), none, .mov (.tmp 123)⟩])))
 (.seq (.reg [⟨(some 124), none, .mov (.tmp 17)⟩,
 ⟨(some 125), none, .mov (.tmp 18)⟩,
 ⟨(some 126), none, .bin .geq (.tmp 124) (.tmp 125)⟩,
 ⟨(some 8), none, .mov (.tmp 126)⟩])
 (.seq (.reg [⟨(some 127), none, .mov (.tmp 0)⟩,
 ⟨(some 128), none, .mov (.tmp 14)⟩,
 ⟨(some 129), none, .bin .add (.tmp 128) (.lit (.int .i64 1))⟩,
 ⟨(some 130), none, .mov (.tmp 2)⟩,
 ⟨(some 131), none, .mov (.tmp 3)⟩,
 ⟨(some 132), none, .call (.fn 76) [(.tmp 127), (.tmp 129), (.tmp 130), (.tmp 131)]⟩])
 (.reg [⟨(some 133), none, .mov (.tmp 14)⟩,
 ⟨(some 2), none, .mov (.tmp 133)⟩])))))))))))))))))))))
theorem k76 : FnC Tryz.prog 76 134 [] [] [] c76 4 := ⟨Tryz.f76, _, Tryz.func76, rfl, by decide, rfl, by decide, by kernel_rfl, by kernel_rfl⟩
/-- slices.insertionSortOrdered[int] -/
def c89 : AC :=
 .seq (.reg [⟨(some 8), none, .mov (.tmp 1)⟩,
 ⟨(some 9), none, .bin .add (.tmp 8) (.lit (.int .i64 1))⟩,
 ⟨(some 6), none, .mov (.tmp 9)⟩])
 (.block 0 (.loop (.seq (.seq (.reg [⟨(some 10), none, .mov (.tmp 6)⟩,
 ⟨(some 11), none, .mov (.tmp 2)⟩,
 ⟨(some 12), none, .bin .lss (.tmp 10) (.tmp 11)⟩])
 (.cond (.tmp 12) (.skip)
 (.exit 0)))
 (.seq (.block 1 (.seq (.reg [⟨(some 15), none, .mov (.tmp 6)⟩,
 ⟨(some 7), none, .mov (.tmp 15)⟩])
 (.block 2 (.loop (.seq (.seq (.draw (.step ⟨(some 16), none, .mov (.tmp 7)⟩ (
 .step ⟨(some 17), none, .mov (.tmp 1)⟩ (
 .step ⟨(some 18), none, .bin .gtr (.tmp 16) (.tmp 17)⟩ (
 .step ⟨(some 19), none, .mov (.tmp 18)⟩ (
 .step ⟨(some 20), (some (19, true)), .mov (.tmp 0)⟩ (
 .step ⟨(some 21), (some (19, true)), .mov (.tmp 7)⟩ (
 .step ⟨(some 22), (some (19, true)), .iaddr 1 (.tmp 20) (.tmp 21)⟩ (
 .step ⟨(some 23), (some (19, true)), .load false 1 (.tmp 22)⟩ (
 .step ⟨(some 24), (some (19, true)), .mov (.tmp 0)⟩ (
 .step ⟨(some 25), (some (19, true)), .mov (.tmp 7)⟩ (
 .step ⟨(some 26), (some (19, true)), .bin .sub (.tmp 25) (.lit (.int .i64 1))⟩ (
 .step ⟨(some 27), (some (19, true)), .iaddr 1 (.tmp 24) (.tmp 26)⟩ (
 .step ⟨(some 28), (some (19, true)), .load false 1 (.tmp 27)⟩ (
 .ev ⟨(some 29), (some (19, true)), .call (.fn 95) [(.tmp 23), (.tmp 28)]⟩ [⟨(some 27), (some (19, true)), .iaddr 1 (.tmp 24) (.tmp 26)⟩, ⟨(some 22), (some (19, true)), .iaddr 1 (.tmp 20) (.tmp 21)⟩] (
 .step ⟨(some 30), none, .pick (.tmp 19) (.tmp 29) (.lit (.bool false))⟩ (
 .done))
 (.stop))))))))))))))))
 (.cond (.tmp 30) (.skip)
 (.exit 2)))
 (.seq (.block 3 (.draw (.step ⟨(some 33), none, .mov (.tmp 0)⟩ (
 .step ⟨(some 34), none, .mov (.tmp 7)⟩ (
 .step ⟨(some 35), none, .mov (.tmp 0)⟩ (
 .step ⟨(some 36), none, .mov (.tmp 7)⟩ (
 .step ⟨(some 37), none, .bin .sub (.tmp 36) (.lit (.int .i64 1))⟩ (
 .step ⟨(some 38), none, .mov (.tmp 0)⟩ (
 .step ⟨(some 39), none, .mov (.tmp 7)⟩ (
 .step ⟨(some 40), none, .bin .sub (.tmp 39) (.lit (.int .i64 1))⟩ (
 .step ⟨(some 41), none, .iaddr 1 (.tmp 38) (.tmp 40)⟩ (
 .step ⟨(some 42), none, .load false 1 (.tmp 41)⟩ (
 .step ⟨(some 43), none, .mov (.tmp 0)⟩ (
 .step ⟨(some 44), none, .mov (.tmp 7)⟩ (
 .step ⟨(some 45), none, .iaddr 1 (.tmp 43) (.tmp 44)⟩ (
 .step ⟨(some 46), none, .load false 1 (.tmp 45)⟩ (
 .step ⟨(some 47), none, .iaddr 1 (.tmp 33) (.tmp 34)⟩ (
 .ev ⟨none, none, .store 1 (.tmp 47) (.tmp 42)⟩ [⟨(some 45), none, .iaddr 1 (.tmp 43) (.tmp 44)⟩] (
 .step ⟨(some 48), none, .iaddr 1 (.tmp 35) (.tmp 37)⟩ (
 .ev ⟨none, none, .store 1 (.tmp 48) (.tmp 46)⟩ [] (
 .done)
 (.stop)))
 (.stop)))))))))))))))))))
 (.reg [⟨(some 31), none, .mov (.tmp 7)⟩,
 ⟨(some 32), none, .bin .sub (.tmp 31) (.lit (.int .i64 1))⟩,
 ⟨(some 7), none, .mov (.tmp 32)⟩])))))))
 (.reg [⟨(some 13), none, .mov (.tmp 6)⟩,
 ⟨(some 14), none, .bin .add (.tmp 13) (.lit (.int .i64 1))⟩,
 ⟨(some 6), none, .mov (.tmp 14)⟩])))))
theorem k89 : FnC Tryz.prog 89 49 [] [] [] c89 3 := ⟨Tryz.f89, _, Tryz.func89, rfl, by decide, rfl, by decide, by kernel_rfl, by kernel_rfl⟩
/-- cmp.Less[int] -/
def c95 : AC :=
 .seq (.reg [⟨(some 4), none, .mov (.lit (.bool false))⟩])
 (.seq (.reg [⟨(some 5), none, .mov (.tmp 0)⟩,
 ⟨(some 6), none, .call (.fn 108) [(.tmp 5)]⟩,
 ⟨(some 7), none, .mov (.tmp 6)⟩,
 ⟨(some 8), (some (7, true)), .mov (.tmp 1)⟩,
 ⟨(some 9), (some (7, true)), .call (.fn 108) [(.tmp 8)]⟩,
 ⟨(some 10), (some (7, true)), .un .not (.tmp 9)⟩,
 ⟨(some 11), none, .pick (.tmp 7) (.tmp 10) (.lit (.bool false))⟩,
 ⟨(some 12), none, .mov (.tmp 11)⟩,
 ⟨(some 13), (some (12, false)), .mov (.tmp 0)⟩,
 ⟨(some 14), (some (12, false)), .mov (.tmp 1)⟩,
 ⟨(some 15), (some (12, false)), .bin .lss (.tmp 13) (.tmp 14)⟩,
 ⟨(some 16), none, .pick (.tmp 12) (.lit (.bool true)) (.tmp 15)⟩,
 ⟨(some 4), none, .mov (.tmp 16)⟩])
 (.ret))
theorem k95 : FnC Tryz.prog 95 17 [] [] [.tmp 4] c95 2 := ⟨Tryz.f95, _, Tryz.func95, rfl, by decide, rfl, by decide, by kernel_rfl, by kernel_rfl⟩
/-- cmp.isNaN[int] -/
def c108 : AC :=
 .seq (.reg [⟨(some 2), none, .mov (.lit (.bool false))⟩])
 (.seq (.reg [⟨(some 3), none, .mov (.tmp 0)⟩,
 ⟨(some 4), none, .mov (.tmp 0)⟩,
 ⟨(some 5), none, .bin .neq (.tmp 3) (.tmp 4)⟩,
 ⟨(some 2), none, .mov (.tmp 5)⟩])
 (.ret))
theorem k108 : FnC Tryz.prog 108 6 [] [] [.tmp 2] c108 1 := ⟨Tryz.f108, _, Tryz.func108, rfl, by decide, rfl, by decide, by kernel_rfl, by kernel_rfl⟩
/-- math/bits.Len -/
def c77 : AC :=
 .seq (.reg [⟨(some 2), none, .mov (.lit (.int .i64 0))⟩])
 (.seq (.cond (.lit (.bool false)) (.seq (.reg [⟨(some 3), none, .mov (.tmp 0)⟩,
 ⟨(some 4), none, .conv .u32 (.tmp 3)⟩,
 ⟨(some 5), none, .call (.fn 98) [(.tmp 4)]⟩,
 ⟨(some 2), none, .mov (.tmp 5)⟩])
 (.ret))
 (.skip))
 (.seq (.reg [⟨(some 6), none, .mov (.tmp 0)⟩,
 ⟨(some 7), none, .call (.fn 99) [(.tmp 6)]⟩,
 ⟨(some 2), none, .mov (.tmp 7)⟩])
 (.ret)))
theorem k77 : FnC Tryz.prog 77 8 [] [] [.tmp 2] c77 1 := ⟨Tryz.f77, _, Tryz.func77, rfl, by decide, rfl, by decide, by kernel_rfl, by kernel_rfl⟩
/-- math/bits.Len64 -/
def c99 : AC :=
 .seq (.reg [⟨(some 2), none, .mov (.lit (.int .i64 0))⟩])
 (.seq (.seq (.reg [⟨(some 3), none, .mov (.tmp 0)⟩,
 ⟨(some 4), none, .bin .geq (.tmp 3) (.lit (.int .u64 4294967296))⟩])
 (.cond (.tmp 4) (.seq (.reg [⟨(some 5), none, .mov (.tmp 0)⟩,
 ⟨(some 6), none, .bin .shr (.tmp 5) (.lit (.int .u64 32))⟩,
 ⟨(some 0), none, .mov (.tmp 6)⟩])
 (.reg [⟨(some 2), none, .mov (.lit (.int .i64 32))⟩]))
 (.skip)))
 (.seq (.seq (.reg [⟨(some 7), none, .mov (.tmp 0)⟩,
 ⟨(some 8), none, .bin .geq (.tmp 7) (.lit (.int .u64 65536))⟩])
 (.cond (.tmp 8) (.seq (.reg [⟨(some 9), none, .mov (.tmp 0)⟩,
 ⟨(some 10), none, .bin .shr (.tmp 9) (.lit (.int .u64 16))⟩,
 ⟨(some 0), none, .mov (.tmp 10)⟩])
 (.reg [⟨(some 11), none, .mov (.tmp 2)⟩,
 ⟨(some 12), none, .bin .add (.tmp 11) (.lit (.int .i64 16))⟩,
 ⟨(some 2), none, .mov (.tmp 12)⟩]))
 (.skip)))
 (.seq (.seq (.reg [⟨(some 13), none, .mov (.tmp 0)⟩,
 ⟨(some 14), none, .bin .geq (.tmp 13) (.lit (.int .u64 256))⟩])
 (.cond (.tmp 14) (.seq (.reg [⟨(some 15), none, .mov (.tmp 0)⟩,
 ⟨(some 16), none, .bin .shr (.tmp 15) (.lit (.int .u64 8))⟩,
 ⟨(some 0), none, .mov (.tmp 16)⟩])
 (.reg [⟨(some 17), none, .mov (.tmp 2)⟩,
 ⟨(some 18), none, .bin .add (.tmp 17) (.lit (.int .i64 8))⟩,
 ⟨(some 2), none, .mov (.tmp 18)⟩]))
 (.skip)))
 (.seq (.reg [⟨(some 19), none, .mov (.tmp 2)⟩,
 ⟨(some 20), none, .mov (.tmp 0)⟩,
 ⟨(some 21), none, .conv .u8 (.tmp 20)⟩,
 ⟨(some 22), none, .sidx [0, 1, 2, 2, 3, 3, 3, 3, 4, 4, 4, 4, 4, 4, 4, 4, 5, 5, 5, 5, 5, 5, 5, 5, 5, 5, 5, 5, 5, 5, 5, 5, 6, 6, 6, 6, 6, 6, 6, 6, 6, 6, 6, 6, 6, 6, 6, 6, 6, 6, 6, 6, 6, 6, 6, 6, 6, 6, 6, 6, 6, 6, 6, 6, 7, 7, 7, 7, 7, 7, 7, 7, 7, 7, 7, 7, 7, 7, 7, 7, 7, 7, 7, 7, 7, 7, 7, 7, 7, 7, 7, 7, 7, 7, 7, 7, 7, 7, 7, 7, 7, 7, 7, 7, 7, 7, 7, 7, 7, 7, 7, 7, 7, 7, 7, 7, 7, 7, 7, 7, 7, 7, 7, 7, 7, 7, 7, 7, 8, 8, 8, 8, 8, 8, 8, 8, 8, 8, 8, 8, 8, 8, 8, 8, 8, 8, 8, 8, 8, 8, 8, 8, 8, 8, 8, 8, 8, 8, 8, 8, 8, 8, 8, 8, 8, 8, 8, 8, 8, 8, 8, 8, 8, 8, 8, 8, 8, 8, 8, 8, 8, 8, 8, 8, 8, 8, 8, 8, 8, 8, 8, 8, 8, 8, 8, 8, 8, 8, 8, 8, 8, 8, 8, 8, 8, 8, 8, 8, 8, 8, 8, 8, 8, 8, 8, 8, 8, 8, 8, 8, 8, 8, 8, 8, 8, 8, 8, 8, 8, 8, 8, 8, 8, 8, 8, 8, 8, 8, 8, 8, 8, 8, 8, 8, 8, 8, 8, 8, 8, 8, 8, 8, 8, 8, 8, 8] (.tmp 21)⟩,
 ⟨(some 23), none, .conv .i64 (.tmp 22)⟩,
 ⟨(some 24), none, .bin .add (.tmp 19) (.tmp 23)⟩,
 ⟨(some 2), none, .mov (.tmp 24)⟩])
 (.ret)))))
theorem k99 : FnC Tryz.prog 99 25 [] [] [.tmp 2] c99 1 := ⟨Tryz.f99, _, Tryz.func99, rfl, by decide, rfl, by decide, by kernel_rfl, by kernel_rfl⟩
end Go.Proofs.YtnmmhkkmejbckaaGreatDoor

/- Short lists are sorted, and told once each. -/
namespace Go.Proofs.YtnmmhkkmejbckaaGreatDoor
open Go Go.Ab

theorem isNaN_ok (a : Int) : ACall Tryz.prog 108 [.t (vi a)] [] (ret (vb false)) := by
  refine ACall.walk k108 ?_
  unfold c108
  have z : (a != a) = false := by simp
  simp only [go_sem, Nat.reduceEqDiff, bne_self_eq_false]
  exact finL_ret [] ⟨rfl, rfl, rfl, rfl, _, rfl, ret_mk rfl⟩
theorem less_ok (a b : Int) : ACall Tryz.prog 95 [.t (vi a), .t (vi b)] [] (ret (vb (decide (a < b)))) := by
  have h := isNaN_ok a
  refine ACall.walk k95 ?_
  unfold c95
  simp only [go_sem, Nat.reduceEqDiff]
  refine ACallL.quiet1 h rfl rfl rfl ?_
  simp only [go_sem, Nat.reduceEqDiff, undef, beq_self_eq_true]
  exact finL_ret [] ⟨rfl, rfl, rfl, rfl, _, rfl, ret_mk rfl⟩
theorem u64_nat {n : Nat} (h : n < 18446744073709551616) : IntKind.u64.wrap (n : Int) = n := by
  simp only [IntKind.wrap, IntKind.signed, IntKind.bits]
  simp
  omega
/-- A number is brought down to its place. -/
def swapDown (l : List Int) : Nat → List Int
  | 0 => l
  | j + 1 => if l.getD (j + 1) 0 < l.getD j 0 then swapDown ((l.set (j + 1) (l.getD j 0)).set j (l.getD (j + 1) 0)) j else l
theorem swapDown_len : ∀ (j : Nat) (l : List Int), (swapDown l j).length = l.length
  | 0, _ => rfl
  | j + 1, l => by
    unfold swapDown
    split
    · rw [swapDown_len j]; simp
    · rfl
def srtN (l : List Int) : Nat → List Int
  | 0 => l
  | i + 1 => if i = 0 then l else swapDown (srtN l i) i
theorem srtN_len (l : List Int) : ∀ i, (srtN l i).length = l.length
  | 0 => rfl
  | i + 1 => by
    unfold srtN
    split
    · rfl
    · rw [swapDown_len, srtN_len l i]
abbrev rowI (l : List Int) : AO := .row 1 ((l.map vi).map .t)

set_option maxRecDepth 8000 in
set_option maxHeartbeats 4000000 in
theorem insSort_ok (l : List Int) (h1 : 1 ≤ l.length) (hl : l.length < 1000000) : ACall Tryz.prog 89 [.loc 0 l.length, .t (vi 0), .t (vi l.length)] [rowI l] (fun o σ' => o = .ret (.tup []) ∧ σ' = [rowI (srtN l l.length)]) := by
  refine ACall.walk k89 ?_
  unfold c89
  have hless := fun a b => less_ok a b
  simp only [go_sem, Nat.reduceEqDiff, Nat.reduceAdd, Int.reduceAdd]
  refine awpL_loopK (l.length - 1) (fun k s => s = { env := [(6, .t (vi (k + 1 : Nat))), (0, .loc 0 l.length), (1, .t (vi 0)), (2, .t (vi l.length))], σ := [rowI (srtN l (k + 1))] })
    ⟨_, Sub.gc [0] [6, 0, 1, 2] rfl rfl, ?_⟩ ?_
  · refine St.gc_mk rfl ?_ rfl rfl
    unfold σgc
    simp only [List.map_cons, List.map_nil, List.getD_cons_zero, AO.gc, gc_row]
    rfl
  rintro k0 s hi rfl
  obtain ⟨i, hik⟩ : ∃ i, k0 + 1 = i := ⟨_, rfl⟩
  have hk2 : k0 + 1 + 1 = i + 1 := by omega
  rw [hk2]
  rw [hik]
  have hi1 : 1 ≤ i := by omega
  cases g : decide ((i : Int) < (l.length : Int))
  · have he : i = l.length := by have := of_decide_eq_false g; omega
    subst he
    simp only [go_sem, Nat.reduceEqDiff, g]
    refine finL_ret [0] ⟨rfl, rfl, rfl, rfl, _, rfl, rfl, ?_⟩
    unfold σgc
    simp only [List.map_cons, List.map_nil, List.getD_cons_zero, AO.gc, gc_row]
  have hlt : i < l.length := by have := of_decide_eq_true g; omega
  have w1 : IntKind.i64.wrap ((i : Int) + 1) = ((i + 1 : Nat) : Int) := by rw [wrap_id (by omega) (by omega)]; omega
  have hs : srtN l (i + 1) = swapDown (srtN l i) i := by rw [srtN, if_neg (by omega)]
  have hln := srtN_len l i
  rw [hs]
  generalize srtN l i = X at *
  simp only [go_sem, Nat.reduceEqDiff, g]
  refine awpL_loopK i (fun k s => ∃ Y : List Int, Y.length = l.length ∧ swapDown Y (i - k) = swapDown X i ∧ s = { env := [(7, .t (vi (i - k : Nat))), (6, .t (vi i)), (0, .loc 0 l.length), (1, .t (vi 0)), (2, .t (vi l.length))], σ := [rowI Y] })
    ⟨_, Sub.gc [0] [7, 6, 0, 1, 2] rfl rfl, X, hln, rfl, ?_⟩ ?_
  · refine St.gc_mk rfl ?_ rfl rfl
    unfold σgc
    simp only [List.map_cons, List.map_nil, List.getD_cons_zero, AO.gc, gc_row]
  rintro k s hk ⟨Y, hY, hsw, rfl⟩
  obtain ⟨j, hj⟩ : ∃ j, i - k = j := ⟨_, rfl⟩
  rw [hj] at hsw ⊢
  cases j with
  | zero =>
    have hz : decide (((0 : Nat) : Int) > 0) = false := rfl
    simp only [go_sem, Nat.reduceEqDiff, Int.reduceGT, decide_false, undef, w1]
    refine ⟨by omega, _, Sub.gc [0] [6, 0, 1, 2] rfl rfl, ?_⟩
    rw [← hsw]
    refine St.gc_mk rfl ?_ rfl rfl
    unfold σgc
    simp only [List.map_cons, List.map_nil, List.getD_cons_zero, AO.gc, gc_row]
    rfl
  | succ j =>
    have hz : decide (((j + 1 : Nat) : Int) > 0) = true := decide_eq_true (by omega)
    have hj1 : j + 1 < Y.length := by omega
    have n0 : (((j + 1 : Nat) : Int) < 0) = False := eq_false (by omega)
    have n1 : IntKind.i64.wrap (((j + 1 : Nat) : Int) - 1) = (j : Int) := by rw [wrap_id (by omega) (by omega)]; omega
    have n2 : ((j : Int) < 0) = False := eq_false (by omega)
    have n3 : (((j + 1 : Nat) : Int) < (l.length : Int)) = True := eq_true (by omega)
    have n4 : ((j : Int) < (l.length : Int)) = True := eq_true (by omega)
    have x1 : Y[j + 1]? = some (Y.getD (j + 1) 0) := by rw [List.getD_eq_getElem?_getD, List.getElem?_eq_getElem hj1]; rfl
    have x0 : Y[j]? = some (Y.getD j 0) := by rw [List.getD_eq_getElem?_getD, List.getElem?_eq_getElem (show j < Y.length by omega)]; rfl
    have hsd : swapDown Y (j + 1) = if Y.getD (j + 1) 0 < Y.getD j 0 then swapDown ((Y.set (j + 1) (Y.getD j 0)).set j (Y.getD (j + 1) 0)) j else Y := rfl
    generalize ha : Y.getD (j + 1) 0 = a at *
    generalize hb : Y.getD j 0 = b at *
    have hc := hless a b
    have hset : (((Y.map vi).map E.t).set (j + 1) (E.t (vi b))).set j (E.t (vi a)) = ((((Y.set (j + 1) b).set j a).map vi).map E.t) := by simp only [List.map_set]
    simp only [go_sem, Nat.reduceEqDiff, beq_self_eq_true, hz, n1, n3, n4, hY, x1, x0, List.getElem?_map, Option.map_some, List.length_map]
    refine ACallL.quiet1 hc rfl rfl rfl ?_
    cases hab : decide (a < b)
    · have hab' := of_decide_eq_false hab
      rw [if_neg hab'] at hsd
      simp only [go_sem, Nat.reduceEqDiff, undef, beq_self_eq_true, n3, n4, hY, List.length_map, w1]
      refine ⟨by omega, _, Sub.gc [0] [6, 0, 1, 2] rfl rfl, ?_⟩
      rw [← hsw, hsd]
      refine St.gc_mk rfl ?_ rfl rfl
      unfold σgc
      simp only [List.map_cons, List.map_nil, List.getD_cons_zero, AO.gc, gc_row]
    · have hab' := of_decide_eq_true hab
      rw [if_pos hab'] at hsd
      have hgt : ∀ e : E, (((Y.map vi).map E.t).set (j + 1) e)[j]? = some (E.t (vi b)) := fun e => by
        rw [List.getElem?_set_ne (by omega), List.getElem?_map, List.getElem?_map, x0]; rfl
      simp only [go_sem, Nat.reduceEqDiff, Bool.not_false, undef, beq_self_eq_true, n1, n3, n4, hY, x1, x0, List.getElem?_map, Option.map_some, List.length_map, List.length_set, hgt]
      have hij : i - (k + 1) = j := by omega
      refine ⟨by omega, _, Sub.gc [0] [7, 6, 0, 1, 2] rfl rfl, (Y.set (j + 1) b).set j a, by simp [hY], ?_, ?_⟩
      · rw [hij, ← hsd]; exact hsw
      · rw [hij]
        refine St.gc_mk rfl ?_ rfl rfl
        have hset2 : (((Y.map vi).map E.t).set (j + 1) (E.t (T.lit (Value.int .i64 b)))).set j (E.t (T.lit (Value.int .i64 a))) = ((((Y.set (j + 1) b).set j a).map vi).map E.t) := hset
        rw [hset2]
        unfold σgc
        simp only [List.map_cons, List.map_nil, List.getD_cons_zero, AO.gc, gc_row]
theorem lend1 {f : Nat} {args0 : List E} {a : AO} {R0 : Out → AO → Prop} (h : ACall Tryz.prog f args0 [a] (fun o σ' => ∃ a', R0 o a' ∧ σ' = [a'])) {m : Nat} {σ : List AO} {b : AO} (hm : σ[m]? = some b) (hb : b = a.ren (lendR [m] σ.length))
    {args : List E} (hargs : args = E.rens (lendR [m] σ.length) args0) {R : Lz (Out → List AO → Prop)}
    (hk : ∀ o a', R0 o a' → R.get (o.ren (lendR [m] σ.length)) (σ.set m (a'.ren (lendR [m] σ.length)))) : @ACallL Tryz.prog f args σ R := by
  have hml := (List.getElem?_eq_some_iff.1 hm).1
  have e0 : lendR [m] σ.length 0 = m := rfl
  refine ACall.mono (ACall.lend [m] h (by simp) (by simpa using hml) rfl (fun j o ho => ?_) hargs) ?_
  · match j, ho with
    | 0, ho => simp at ho; subst ho; rw [e0, hm, hb]
  · rintro o σ1 ⟨o0, σ0, ⟨a', hR, rfl⟩, _, rfl, rfl⟩
    have := hk o0 a' hR
    have hs : lendB σ [m] ([a'].map (AO.ren (lendR [m] σ.length))) = σ.set m (a'.ren (lendR [m] σ.length)) := by
      apply List.ext_getElem?
      intro i
      by_cases hi : i = m
      · subst hi
        rw [lendB_kept (j := 0) (by simp) (by simp) (by simpa using hml) rfl, List.getElem?_set_self hml]
        rfl
      · by_cases hil : i < σ.length
        · rw [lendB_other hil (by simpa using hi), List.getElem?_set_ne (Ne.symm hi)]
        · rw [List.getElem?_eq_none (by rw [lendB_length (by simp)]; simp; omega), List.getElem?_eq_none (by rw [List.length_set]; omega)]
    rw [hs]
    exact this

theorem rowI_ren (ρ : Nat → Nat) (l : List Int) : (rowI l).ren ρ = rowI l := by
  show AO.row 1 (E.rens ρ ((l.map vi).map .t)) = _
  rw [E.rens_map, List.map_map]
  rfl
set_option maxRecDepth 8000 in
theorem len_ok (n : Int) (hn : 0 ≤ n ∧ n ≤ 3) : ∃ v : Int, ACall Tryz.prog 77 [.t (.lit (.int .u64 n))] [] (ret (vi v)) := by
  have h92 : ∃ v : Int, ACall Tryz.prog 99 [.t (.lit (.int .u64 n))] [] (ret (vi v)) := by
    refine ⟨if n = 0 then 0 else if n = 1 then 1 else 2, ACall.walk k99 ?_⟩
    unfold c99
    have h4 : n = 0 ∨ n = 1 ∨ n = 2 ∨ n = 3 := by omega
    rcases h4 with rfl | rfl | rfl | rfl
    all_goals
      simp only [go_sem, Nat.reduceEqDiff, Int.reduceLE, Int.reduceGE, decide_false, show IntKind.u8.wrap 0 = 0 from rfl, show IntKind.u8.wrap 1 = 1 from rfl, show IntKind.u8.wrap 2 = 2 from rfl, show IntKind.u8.wrap 3 = 3 from rfl, show (0 : Int).toNat = 0 from rfl, show (1 : Int).toNat = 1 from rfl, show (2 : Int).toNat = 2 from rfl, show (3 : Int).toNat = 3 from rfl, List.getElem?_cons_zero, List.getElem?_cons_succ]
      exact finL_ret [] ⟨rfl, rfl, rfl, rfl, _, rfl, ret_mk rfl⟩
  obtain ⟨v, hv⟩ := h92
  refine ⟨v, ACall.walk k77 ?_⟩
  unfold c77
  simp only [go_sem, Nat.reduceEqDiff]
  refine ACallL.quiet1 hv rfl rfl rfl ?_
  simp only [go_sem, Nat.reduceEqDiff]
  exact finL_ret [] ⟨rfl, rfl, rfl, rfl, _, rfl, ret_mk rfl⟩
set_option maxRecDepth 8000 in
set_option maxHeartbeats 4000000 in
theorem pdq_ok (l : List Int) (h1 : 1 ≤ l.length) (hl : l.length ≤ 12) (v : Int) : ACall Tryz.prog 76 [.loc 0 l.length, .t (vi 0), .t (vi l.length), .t (vi v)] [rowI l] (fun o σ' => o = .ret (.tup []) ∧ σ' = [rowI (srtN l l.length)]) := by
  have hi := insSort_ok l h1 (by omega)
  have hle : decide ((l.length : Int) ≤ 12) = true := decide_eq_true (by omega)
  have w1 : IntKind.i64.wrap ((l.length : Int) - 0) = l.length := by rw [wrap_id (by omega) (by omega)]; omega
  refine ACall.walk k76 ?_
  unfold c76
  simp only [go_sem, Nat.reduceAdd]
  refine awpL_loopK 0 (fun _ s => s = { env := [(8, .t (vb true)), (9, .t (vb true)), (0, .loc 0 l.length), (1, .t (vi 0)), (2, .t (vi l.length)), (3, .t (vi v))], σ := [rowI l] })
    ⟨_, Sub.gc [0] [8, 9, 0, 1, 2, 3] rfl rfl, ?_⟩ ?_
  · refine St.gc_mk rfl ?_ rfl rfl
    unfold σgc
    simp only [List.map_cons, List.map_nil, List.getD_cons_zero, AO.gc, gc_row]
  rintro k s hk rfl
  simp only [go_sem, Nat.reduceEqDiff, w1, hle]
  refine lend1 (m := 0) (R0 := fun o a' => o = .ret (.tup []) ∧ a' = rowI (srtN l l.length)) (hi.mono fun o σ' h => ⟨_, ⟨h.1, rfl⟩, h.2⟩) rfl (rowI_ren _ _).symm rfl ?_
  rintro o a' ⟨rfl, rfl⟩
  rw [rowI_ren]
  simp only [go_sem, Out.ren, E.rens, E.ren]
  refine finL_ret [0] ⟨rfl, rfl, rfl, rfl, _, rfl, rfl, ?_⟩
  unfold σgc
  simp only [List.map_cons, List.map_nil, List.getD_cons_zero, AO.gc, gc_row]
set_option maxRecDepth 8000 in
set_option maxHeartbeats 4000000 in
theorem sort_ok (l : List Int) (h1 : 1 ≤ l.length) (hl : l.length ≤ 3) : ACall Tryz.prog 36 [.loc 0 l.length] [rowI l] (fun o σ' => o = .ret (.tup []) ∧ σ' = [rowI (srtN l l.length)]) := by
  obtain ⟨v, hv⟩ := len_ok l.length (by omega)
  have hp := pdq_ok l h1 (by omega) v
  have w1 : IntKind.u64.wrap (l.length : Int) = l.length := u64_nat (by omega)
  refine ACall.walk k36 ?_
  unfold c36
  simp only [go_sem, Nat.reduceEqDiff, List.length_map, w1]
  refine ACallL.quiet1 hv rfl rfl rfl ?_
  simp only [go_sem, Nat.reduceEqDiff]
  refine lend1 (m := 0) (R0 := fun o a' => o = .ret (.tup []) ∧ a' = rowI (srtN l l.length)) (hp.mono fun o σ' h => ⟨_, ⟨h.1, rfl⟩, h.2⟩) rfl (rowI_ren _ _).symm rfl ?_
  rintro o a' ⟨rfl, rfl⟩
  rw [rowI_ren]
  simp only [go_sem, Out.ren, E.rens, E.ren]
  refine finL_ret [0] ⟨rfl, rfl, rfl, rfl, _, rfl, rfl, ?_⟩
  unfold σgc
  simp only [List.map_cons, List.map_nil, List.getD_cons_zero, AO.gc, gc_row]
end Go.Proofs.YtnmmhkkmejbckaaGreatDoor

/- Numbers that follow upon themselves are told once. -/
namespace Go.Proofs.YtnmmhkkmejbckaaGreatDoor
open Go Go.Ab

def cmpN (l : List Int) : Nat → List Int
  | 0 => []
  | m + 1 => if m = 0 ∨ l.getD m 0 ≠ l.getD (m - 1) 0 then cmpN l m ++ [l.getD m 0] else cmpN l m
theorem cmpN_le (l : List Int) : ∀ m, (cmpN l m).length ≤ m
  | 0 => Nat.le_refl _
  | m + 1 => by
    have := cmpN_le l m
    unfold cmpN
    split
    · rw [List.length_append]; simp; omega
    · omega
theorem cmpN_take (l : List Int) : ∀ m, m ≤ l.length → (∀ i, i + 1 < m → l.getD (i + 1) 0 ≠ l.getD i 0) → cmpN l m = l.take m
  | 0, _, _ => rfl
  | m + 1, hm, h => by
    have hx : l[m]? = some (l.getD m 0) := by rw [List.getD_eq_getElem?_getD, List.getElem?_eq_getElem (by omega)]; rfl
    rw [cmpN, cmpN_take l m (by omega) fun i hi => h i (by omega), List.take_add_one, hx]
    rw [if_pos]
    · rfl
    · by_cases e : m = 0
      · exact .inl e
      · obtain ⟨i, rfl⟩ : ∃ i, m = i + 1 := ⟨m - 1, by omega⟩
        exact .inr (h i (by omega))
theorem cmpN_less {l : List Int} {o : Nat} (ho : 1 ≤ o) (h : l.getD o 0 = l.getD (o - 1) 0) : ∀ m, (cmpN l (o + m + 1)).length ≤ o + m
  | 0 => by
    rw [Nat.add_zero, cmpN, if_neg]
    · exact cmpN_le l o
    · rintro (e | e)
      · omega
      · exact e h
  | m + 1 => by
    have ih := cmpN_less ho h m
    rw [show o + (m + 1) + 1 = (o + m + 1) + 1 by omega, cmpN]
    split
    · rw [List.length_append]; simp; omega
    · omega
/-- What comes back. -/
def CmpR (l : List Int) (o : Out) (a : AO) : Prop := ∃ (X : List Int) (e : E), o = .ret e ∧ a = rowI X ∧ X.length = l.length ∧
  ((e = .loc 0 l.length ∧ X = cmpN l l.length) ∨ ∃ k, e = .sub 0 l.length 1 0 k ∧ k ≤ l.length ∧ X.take k = cmpN l l.length)

set_option maxRecDepth 8000 in
set_option maxHeartbeats 4000000 in
theorem compact_ok (l : List Int) (h1 : 1 ≤ l.length) (hl : l.length ≤ 1000) : ACall Tryz.prog 37 [.loc 0 l.length] [rowI l] (fun o σ' => ∃ a', CmpR l o a' ∧ σ' = [a']) := by
  refine ACall.walk k37 ?_
  unfold c37
  have gcr : ∀ (X : List Int) (kp : List Nat) (σ : List AO) (n : Nat), AO.gc kp σ (n + 1) (rowI X) = rowI X := fun X kp σ n => by
    show AO.row 1 (((X.map vi).map E.t).map (E.gc kp σ (n + 1))) = _
    rw [gc_row]
  cases h2 : decide ((l.length : Int) < 2)
  rotate_left
  · have h2' := of_decide_eq_true h2
    simp only [go_sem, Nat.reduceEqDiff, List.length_map, h2]
    refine finL_ret [0] ⟨rfl, rfl, rfl, rfl, _, rfl, _, ⟨l, _, rfl, rfl, rfl, .inl ⟨rfl, ?_⟩⟩, ?_⟩
    · rw [cmpN_take l l.length (Nat.le_refl _) fun i hi => by omega, List.take_length]
    · unfold σgc
      simp only [List.map_cons, List.map_nil, List.getD_cons_zero, AO.gc, gc_row]
  have h2' := of_decide_eq_false h2
  simp only [go_sem, Nat.reduceEqDiff, List.length_map, h2]
  refine awpL_loopK (l.length - 1) (fun j s => (∀ i, i < j → l.getD (i + 1) 0 ≠ l.getD i 0) ∧ s = { env := [(3, .t (vi (j + 1 : Nat))), (0, .loc 0 l.length)], σ := [rowI l] })
    ⟨_, Sub.gc [0] [3, 0] rfl rfl, fun i hi => by omega, ?_⟩ ?_
  · refine St.gc_mk rfl ?_ rfl rfl
    unfold σgc
    simp only [List.map_cons, List.map_nil, List.getD_cons_zero, AO.gc, gc_row]
  rintro j s hj ⟨hno, rfl⟩
  cases g : decide (((j + 1 : Nat) : Int) < (l.length : Int))
  · have he : j + 1 = l.length := by have := of_decide_eq_false g; omega
    simp only [go_sem, Nat.reduceEqDiff, List.length_map, g]
    refine finL_ret [0] ⟨rfl, rfl, rfl, rfl, _, rfl, _, ⟨l, _, rfl, rfl, rfl, .inl ⟨rfl, ?_⟩⟩, ?_⟩
    · rw [cmpN_take l l.length (Nat.le_refl _) fun i hi => hno i (by omega), List.take_length]
    · unfold σgc
      simp only [List.map_cons, List.map_nil, List.getD_cons_zero, AO.gc, gc_row]
  have hlt : j + 1 < l.length := by have := of_decide_eq_true g; omega
  have w1 : IntKind.i64.wrap (((j + 1 : Nat) : Int) + 1) = ((j + 1 + 1 : Nat) : Int) := by rw [wrap_id (by omega) (by omega)]; omega
  have w2 : IntKind.i64.wrap (((j + 1 : Nat) : Int) - 1) = (j : Int) := by rw [wrap_id (by omega) (by omega)]; omega
  have n0 : (((j + 1 : Nat) : Int) < 0) = False := eq_false (by omega)
  have n1 : ((j : Int) < 0) = False := eq_false (by omega)
  have n2 : (((j + 1 : Nat) : Int) < (l.length : Int)) = True := eq_true (by omega)
  have n3 : ((j : Int) < (l.length : Int)) = True := eq_true (by omega)
  have hget : ∀ x, x < l.length → l[x]? = some (l.getD x 0) := fun x hx => by rw [List.getD_eq_getElem?_getD, List.getElem?_eq_getElem hx]; rfl
  have x1 := hget (j + 1) hlt
  have x0 := hget j (by omega)
  by_cases heq : l.getD (j + 1) 0 = l.getD j 0
  rotate_left
  · have z : (l.getD (j + 1) 0 == l.getD j 0) = false := beq_false_of_ne heq
    simp only [go_sem, Nat.reduceEqDiff, decide_true, List.length_map, n2, n3, w1, w2, x1, x0, List.getElem?_map, Option.map_some, z]
    refine ⟨by omega, _, Sub.gc [0] [3, 0] rfl rfl, fun i hi => ?_, ?_⟩
    · by_cases e : i = j
      · subst e; exact heq
      · exact hno i (by omega)
    · refine St.gc_mk rfl ?_ rfl rfl
      unfold σgc
      simp only [List.map_cons, List.map_nil, List.getD_cons_zero, AO.gc, gc_row]
  have z : (l.getD (j + 1) 0 == l.getD j 0) = true := beq_iff_eq.2 heq
  obtain ⟨o, ho⟩ : ∃ o, j + 1 = o := ⟨_, rfl⟩
  have ho1 : 1 ≤ o := by omega
  have hod : l.getD o 0 = l.getD (o - 1) 0 := by rw [← ho]; exact heq
  have hD0 : cmpN l (o + 0 + 1) = l.take o := by
    rw [Nat.add_zero, cmpN, if_neg (by rintro (e | e); · omega
                                       · exact e hod)]
    exact cmpN_take l o (by omega) fun i hi => hno i (by omega)
  have hDl := cmpN_less ho1 hod
  have b0 : (0 ≤ ((j + 1 : Nat) : Int)) = True := eq_true (by omega)
  have b1 : (((j + 1 : Nat) : Int) ≤ (l.length : Int)) = True := eq_true (by omega)
  simp only [go_sem, Nat.reduceEqDiff, decide_true, List.length_map, n2, n3, w2, x1, x0, List.getElem?_map, Option.map_some, z, bnd, b0, b1, Int.le_refl, and_self, Int.toNat_natCast]
  have hn5 : l.length - (j + 1) = l.length - o := by rw [ho]
  rw [ho] at b0 b1 n0 n2 ⊢
  clear x1 x0 w1 w2 z g hno
  refine awpL_loopK (l.length - o - 1) (fun m s => s = { env := [(5, .t (vi (m + 1 : Nat))), (3, .t (vi ((cmpN l (o + m + 1)).length : Nat))), (4, .sub 0 l.length 1 o (l.length - o)), (0, .loc 0 l.length)], σ := [rowI (cmpN l (o + m + 1) ++ l.drop (cmpN l (o + m + 1)).length)] })
    ⟨_, Sub.gc [0] [5, 3, 4, 0] rfl rfl, ?_⟩ ?_
  · rw [hD0, List.length_take, Nat.min_eq_left (by omega), List.take_append_drop]
    refine St.gc_mk rfl ?_ rfl rfl
    unfold σgc
    simp only [List.map_cons, List.map_nil, List.getD_cons_zero, AO.gc, gc_row]
  rintro m s hm rfl
  have hDm := hDl m
  have hsuc : cmpN l (o + (m + 1) + 1) = if o + m + 1 = 0 ∨ l.getD (o + m + 1) 0 ≠ l.getD (o + m + 1 - 1) 0 then cmpN l (o + m + 1) ++ [l.getD (o + m + 1) 0] else cmpN l (o + m + 1) := by
    rw [show o + (m + 1) + 1 = (o + m + 1) + 1 by omega, cmpN]
  have hDfin : m = l.length - o - 1 → cmpN l (o + m + 1) = cmpN l l.length := fun h => by rw [show o + m + 1 = l.length by omega]
  rw [hsuc]
  generalize cmpN l (o + m + 1) = D at *
  have hlenY : (D ++ l.drop D.length).length = l.length := by rw [List.length_append, List.length_drop]; omega
  have hgetY : ∀ x, D.length ≤ x → x < l.length → (D ++ l.drop D.length)[x]? = some (l.getD x 0) := fun x h1 h2 => by
    rw [List.getElem?_append_right h1, List.getElem?_drop, show D.length + (x - D.length) = x by omega]
    exact hget x h2
  have hset : ∀ v, (D ++ l.drop D.length).set D.length v = (D ++ [v]) ++ l.drop (D ++ [v]).length ∨ l.length ≤ D.length := fun v => by
    by_cases h : D.length < l.length
    · left
      rw [List.set_append_right _ _ (Nat.le_refl _), Nat.sub_self, List.append_assoc]
      congr 1
      rw [List.drop_eq_getElem_cons h, List.set_cons_zero, List.length_append]
      rfl
    · exact .inr (by omega)
  cases g : decide (((m + 1 : Nat) : Int) < ((l.length - o : Nat) : Int))
  · have he : m = l.length - o - 1 := by have := of_decide_eq_false g; omega
    have hfin := hDfin he
    have b2 : (0 ≤ ((D.length : Nat) : Int)) = True := eq_true (by omega)
    have b3 : (((D.length : Nat) : Int) ≤ (l.length : Int)) = True := eq_true (by omega)
    have b4 : (D.length + (l.length - D.length) ≤ l.length) = True := eq_true (by omega)
    have hDle : D.length ≤ l.length := by omega
    have hX : List.take D.length (((D ++ l.drop D.length).map vi).map E.t) ++ List.replicate (l.length - D.length) (E.t (.lit (.int .i64 0))) ++ List.drop (D.length + (l.length - D.length)) (((D ++ l.drop D.length).map vi).map E.t) = (((D ++ List.replicate (l.length - D.length) 0).map vi).map E.t) := by
      have e1 : List.drop (D.length + (l.length - D.length)) (((D ++ l.drop D.length).map vi).map E.t) = [] := List.drop_eq_nil_of_le (by rw [List.length_map, List.length_map, hlenY]; omega)
      rw [e1, List.append_nil]
      simp only [List.map_append]
      rw [List.take_left' (by simp), List.map_replicate, List.map_replicate]
    have hXl : (D ++ List.replicate (l.length - D.length) 0).length = l.length := by simp; omega
    have b5 : (some (l.length : Nat) = some l.length) = True := eq_true rfl
    simp only [go_sem, Nat.reduceEqDiff, List.length_map, g, hlenY, bnd, b2, b3, b4, Int.le_refl, and_self, Int.toNat_natCast, hX, hXl]
    refine finL_ret [0] ⟨rfl, rfl, rfl, rfl, _, rfl, _, ⟨D ++ List.replicate (l.length - D.length) 0, _, rfl, rfl, hXl, .inr ⟨D.length, rfl, hDle, ?_⟩⟩, ?_⟩
    · rw [List.take_left' rfl, hfin]
    · unfold σgc
      simp only [List.map_cons, List.map_nil, List.getD_cons_zero, AO.gc, gc_row]
  have hlt2 : o + m + 1 < l.length := by have := of_decide_eq_true g; omega
  have w1 : IntKind.i64.wrap (((m + 1 : Nat) : Int) + 1) = ((m + 1 + 1 : Nat) : Int) := by rw [wrap_id (by omega) (by omega)]; omega
  have w2 : IntKind.i64.wrap (((m + 1 : Nat) : Int) - 1) = (m : Int) := by rw [wrap_id (by omega) (by omega)]; omega
  have w3 : IntKind.i64.wrap (((D.length : Nat) : Int) + 1) = ((D.length + 1 : Nat) : Int) := by rw [wrap_id (by omega) (by omega)]; omega
  have y1 : (((m + 1 : Nat) : Int) < 0) = False := eq_false (by omega)
  have y2 : ((m : Int) < 0) = False := eq_false (by omega)
  have y3 : (((m + 1 : Nat) : Int) < ((l.length - o : Nat) : Int)) = True := eq_true (by omega)
  have y4 : ((m : Int) < ((l.length - o : Nat) : Int)) = True := eq_true (by omega)
  have y5 : (((D.length : Nat) : Int) < 0) = False := eq_false (by omega)
  have y6 : (((D.length : Nat) : Int) < (l.length : Int)) = True := eq_true (by omega)
  have p0 : (0 ≤ ((m + 1 : Nat) : Int)) = True := eq_true (by omega)
  have p1 : (0 ≤ (m : Int)) = True := eq_true (by omega)
  have p2 : (0 ≤ ((D.length : Nat) : Int)) = True := eq_true (by omega)
  have v1 := hgetY (o + (m + 1)) (by omega) (by omega)
  have v0 := hgetY (o + m) (by omega) (by omega)
  have hm1 : l.getD (o + m + 1 - 1) 0 = l.getD (o + m) 0 := by rw [Nat.add_sub_cancel]
  have hm2 : l.getD (o + (m + 1)) 0 = l.getD (o + m + 1) 0 := rfl
  rw [hm1] at hsuc ⊢
  rw [hm2] at v1
  have hm3 : m + 1 + 1 = m + 1 + 1 := rfl
  have hst := (hset (l.getD (o + m + 1) 0)).resolve_right (by omega)
  generalize l.getD (o + m + 1) 0 = a at *
  generalize l.getD (o + m) 0 = b at *
  by_cases hab : a = b
  · have z1 : (a == b) = true := beq_iff_eq.2 hab
    have z2 : (a != b) = false := by simp [hab]
    rw [if_neg (by rintro (e | e); · omega
                   · exact e hab)]
    simp only [go_sem, Nat.reduceEqDiff, decide_true, List.length_map, hlenY, y3, y4, p0, p1, w1, w2, v1, v0, List.getElem?_map, Option.map_some, z2, and_self, Int.toNat_natCast]
    refine ⟨by omega, _, Sub.gc [0] [5, 3, 4, 0] rfl rfl, St.gc_mk rfl ?_ rfl rfl⟩
    unfold σgc
    simp only [List.map_cons, List.map_nil, List.getD_cons_zero, AO.gc, gc_row]
  · have z1 : (a == b) = false := beq_false_of_ne hab
    have z2 : (a != b) = true := bne_iff_ne.2 hab
    rw [if_pos (.inr hab)]
    have hset3 : (((D ++ l.drop D.length).map vi).map E.t).set D.length (E.t (.lit (.int .i64 a))) = ((((D ++ [a]) ++ l.drop (D ++ [a]).length).map vi).map E.t) := by
      rw [← hst, List.map_set, List.map_set]
    have hgs : ((D ++ l.drop D.length).map vi |>.map E.t)[D.length]? = some (E.t (vi (l.getD D.length 0))) := by
      rw [List.getElem?_map, List.getElem?_map, hgetY D.length (Nat.le_refl _) (by omega)]; rfl
    simp only [go_sem, Nat.reduceEqDiff, Bool.not_false, decide_true, undef, List.length_map, hlenY, y3, y4, y6, p0, p1, p2, w1, w2, w3, v1, v0, hgs, List.getElem?_map, Option.map_some, z2, and_self, Int.toNat_natCast]
    rw [hset3]
    have hla : (D ++ [a]).length = D.length + 1 := by simp
    rw [hla]
    refine ⟨by omega, _, Sub.gc [0] [5, 3, 4, 0] rfl rfl, St.gc_mk rfl ?_ rfl rfl⟩
    unfold σgc
    simp only [List.map_cons, List.map_nil, List.getD_cons_zero, AO.gc, gc_row]
end Go.Proofs.YtnmmhkkmejbckaaGreatDoor

/- Compiled code of functions, printed by program; each is checked to be the program's. No conditions. -/
namespace Go.Proofs.YtnmmhkkmejbckaaGreatDoor
open Go Go.Ab
/-- dipworks/watch.Shows -/
def c7 : AC :=
 .seq (.reg [⟨(some 3), none, .box (.tmp 0)⟩,
 ⟨(some 6), none, .mov (.lit (.slice none 0 0))⟩,
 ⟨(some 7), none, .alloc [(.int .i64 0)]⟩])
 (.seq (.reg [⟨(some 11), none, .mkfn (.func 29) [] [(.tmp 7)]⟩,
 ⟨none, none, .deferF (.tmp 11) []⟩])
 (.seq (.draw (.step ⟨(some 12), none, .load true 2 (.tmp 3)⟩ (
 .step ⟨(some 13), none, .load true 2 (.tmp 3)⟩ (
 .step ⟨(some 14), none, .mov (.tmp 1)⟩ (
 .ev ⟨(some 15), none, .call (.fn 32) [(.tmp 13), (.tmp 14)]⟩ [⟨(some 12), none, .load true 2 (.tmp 3)⟩] (
 .step ⟨(some 16), none, .mov (.tmp 15)⟩ (
 .step ⟨(some 17), (some (16, true)), .mov (.tmp 2)⟩ (
 .ev ⟨(some 18), (some (16, true)), .call (.fn 33) [(.tmp 17)]⟩ [⟨(some 13), none, .load true 2 (.tmp 3)⟩, ⟨(some 12), none, .load true 2 (.tmp 3)⟩] (
 .step ⟨(some 19), none, .pick (.tmp 16) (.tmp 18) (.lit (.bool false))⟩ (
 .ev ⟨(some 20), none, .call (.fn 31) [(.tmp 12), (.tmp 19)]⟩ [⟨(some 13), none, .load true 2 (.tmp 3)⟩] (
 .step ⟨(some 8), none, .mov (.tmp 20)⟩ (
 .done))
 (.stop)))
 (.stop))))
 (.stop))))))
 (.seq (.reg [⟨(some 21), none, .mov (.tmp 2)⟩,
 ⟨(some 22), none, .mov (.tmp 8)⟩,
 ⟨(some 23), none, .nilck (.tmp 22)⟩,
 ⟨(some 24), none, .faddr 0 (.tmp 23)⟩,
 ⟨(some 25), none, .faddr 0 (.tmp 24)⟩,
 ⟨(some 26), none, .load false 1 (.tmp 25)⟩,
 ⟨(some 27), none, .mov (.tmp 1)⟩,
 ⟨(some 28), none, .iaddr 4 (.tmp 26) (.tmp 27)⟩,
 ⟨(some 29), none, .faddr 0 (.tmp 28)⟩,
 ⟨(some 30), none, .load false 1 (.tmp 29)⟩,
 ⟨(some 31), none, .bin .geq (.tmp 21) (.tmp 30)⟩,
 ⟨(some 32), none, .call (.fn 34) [(.tmp 31), (.lit (.int .i64 11))]⟩])
 (.seq (.reg [⟨(some 9), none, .alloc [(.slice none 0 0)]⟩])
 (.seq (.seq (.reg [⟨(some 33), none, .mov (.tmp 8)⟩,
 ⟨(some 34), none, .nilck (.tmp 33)⟩,
 ⟨(some 35), none, .faddr 0 (.tmp 34)⟩,
 ⟨(some 36), none, .faddr 0 (.tmp 35)⟩,
 ⟨(some 37), none, .load false 1 (.tmp 36)⟩,
 ⟨(some 38), none, .mov (.tmp 1)⟩,
 ⟨(some 39), none, .iaddr 4 (.tmp 37) (.tmp 38)⟩,
 ⟨(some 40), none, .load true 4 (.tmp 39)⟩,
 ⟨(some 41), none, .build [(.int .i64 0), (.int .i64 0), (.int .i64 0), (.int .i64 0)] [(0, 4, (.tmp 40))]⟩,
 ⟨(some 42), none, .mov (.tmp 2)⟩,
 ⟨(some 43), none, .call (.fn 35) [(.tmp 41), (.tmp 42)]⟩])
 (.block 0 (.seq (.gcp)
 (.rangeF (.tmp 43) 44 (.reg [⟨(some 10), none, .mov (.tmp 44)⟩])
 (.block 1 (.reg [⟨(some 45), none, .load false 1 (.tmp 9)⟩,
 ⟨(some 46), none, .mov (.tmp 10)⟩,
 ⟨(some 47), none, .bslice 1 (.int .i64 0) 1 [(0, (.tmp 46))]⟩,
 ⟨(some 48), none, .app 1 8 (.tmp 45) (.tmp 47)⟩,
 ⟨none, none, .store 1 (.tmp 9) (.tmp 48)⟩]))))))
 (.seq (.reg [⟨(some 49), none, .load false 1 (.tmp 9)⟩,
 ⟨(some 50), none, .call (.fn 36) [(.tmp 49)]⟩])
 (.seq (.reg [⟨(some 51), none, .load false 1 (.tmp 9)⟩,
 ⟨(some 52), none, .call (.fn 37) [(.tmp 51)]⟩,
 ⟨(some 6), none, .mov (.tmp 52)⟩,
 ⟨none, none, .store 1 (.tmp 7) (.lit (.int .i64 0))⟩])
 (.ret))))))))
theorem k7 : FnC Tryz.prog 7 53 [6, 7] [1000000] [.tmp 6, .cell 7 false 1] c7 3 := ⟨Tryz.f7, _, Tryz.func7, rfl, by decide, rfl, by decide, by kernel_rfl, by kernel_rfl⟩
/-- dipworks/watch.Fits -/
def c9 : AC :=
 .seq (.reg [⟨(some 2), none, .box (.tmp 0)⟩,
 ⟨(some 4), none, .mov (.lit (.int .i64 0))⟩,
 ⟨(some 5), none, .alloc [(.int .i64 0)]⟩])
 (.seq (.reg [⟨(some 6), none, .mkfn (.func 42) [] [(.tmp 5)]⟩,
 ⟨none, none, .deferF (.tmp 6) []⟩])
 (.seq (.draw (.step ⟨(some 7), none, .load true 2 (.tmp 2)⟩ (
 .step ⟨(some 8), none, .load true 2 (.tmp 2)⟩ (
 .step ⟨(some 9), none, .mov (.tmp 1)⟩ (
 .step ⟨(some 15), none, .mov (.tmp 1)⟩ (
 .ev ⟨(some 10), none, .call (.fn 43) [(.tmp 8), (.tmp 9)]⟩ [⟨(some 7), none, .load true 2 (.tmp 2)⟩] (
 .ev ⟨(some 11), none, .call (.fn 31) [(.tmp 7), (.tmp 10)]⟩ [⟨(some 8), none, .load true 2 (.tmp 2)⟩] (
 .step ⟨(some 12), none, .nilck (.tmp 11)⟩ (
 .step ⟨(some 13), none, .faddr 2 (.tmp 12)⟩ (
 .step ⟨(some 14), none, .load false 1 (.tmp 13)⟩ (
 .step ⟨(some 16), none, .iaddr 1 (.tmp 14) (.tmp 15)⟩ (
 .step ⟨(some 17), none, .load false 1 (.tmp 16)⟩ (
 .ev ⟨(some 4), none, .mov (.tmp 17)⟩ [] (
 .ev ⟨none, none, .store 1 (.tmp 5) (.lit (.int .i64 0))⟩ [] (
 .done)
 (.stop))
 (.stop)))))))
 (.stop))
 (.stop)))))))
 (.ret)))
theorem k9 : FnC Tryz.prog 9 18 [4, 5] [] [.tmp 4, .cell 5 false 1] c9 2 := ⟨Tryz.f9, _, Tryz.func9, rfl, by decide, rfl, by decide, by kernel_rfl, by kernel_rfl⟩
/-- dipworks/watch.Count -/
def c17 : AC :=
 .seq (.reg [⟨(some 1), none, .box (.tmp 0)⟩,
 ⟨(some 2), none, .mov (.lit (.int .i64 0))⟩,
 ⟨(some 3), none, .alloc [(.int .i64 0)]⟩])
 (.seq (.reg [⟨(some 4), none, .mkfn (.func 52) [] [(.tmp 3)]⟩,
 ⟨none, none, .deferF (.tmp 4) []⟩])
 (.seq (.reg [⟨(some 5), none, .load true 2 (.tmp 1)⟩,
 ⟨(some 6), none, .call (.fn 31) [(.tmp 5), (.lit (.bool true))]⟩,
 ⟨(some 7), none, .nilck (.tmp 6)⟩,
 ⟨(some 8), none, .faddr 2 (.tmp 7)⟩,
 ⟨(some 9), none, .load false 1 (.tmp 8)⟩,
 ⟨(some 10), none, .call (.fn 53) [(.tmp 9)]⟩,
 ⟨(some 2), none, .mov (.tmp 10)⟩,
 ⟨none, none, .store 1 (.tmp 3) (.lit (.int .i64 0))⟩])
 (.ret)))
theorem k17 : FnC Tryz.prog 17 11 [2, 3] [] [.tmp 2, .cell 3 false 1] c17 1 := ⟨Tryz.f17, _, Tryz.func17, rfl, by decide, rfl, by decide, by kernel_rfl, by kernel_rfl⟩
/-- dipworks/watch.Can -/
def c19 : AC :=
 .seq (.reg [⟨(some 2), none, .box (.tmp 0)⟩,
 ⟨(some 4), none, .mov (.lit (.int .i64 0))⟩,
 ⟨(some 5), none, .alloc [(.int .i64 0)]⟩])
 (.seq (.reg [⟨(some 6), none, .mkfn (.func 55) [] [(.tmp 5)]⟩,
 ⟨none, none, .deferF (.tmp 6) []⟩])
 (.seq (.draw (.step ⟨(some 7), none, .load true 2 (.tmp 2)⟩ (
 .step ⟨(some 8), none, .load true 2 (.tmp 2)⟩ (
 .step ⟨(some 9), none, .mov (.tmp 1)⟩ (
 .step ⟨(some 13), none, .mov (.tmp 1)⟩ (
 .ev ⟨(some 10), none, .call (.fn 43) [(.tmp 8), (.tmp 9)]⟩ [⟨(some 7), none, .load true 2 (.tmp 2)⟩] (
 .ev ⟨(some 11), none, .call (.fn 31) [(.tmp 7), (.tmp 10)]⟩ [⟨(some 8), none, .load true 2 (.tmp 2)⟩] (
 .ev ⟨(some 12), none, .call (.fn 56) [(.tmp 11)]⟩ [⟨(some 8), none, .load true 2 (.tmp 2)⟩, ⟨(some 7), none, .load true 2 (.tmp 2)⟩] (
 .step ⟨(some 14), none, .aidx 4 false 1 (.tmp 12) (.tmp 13)⟩ (
 .ev ⟨(some 4), none, .mov (.tmp 14)⟩ [] (
 .ev ⟨none, none, .store 1 (.tmp 5) (.lit (.int .i64 0))⟩ [] (
 .done)
 (.stop))
 (.stop)))
 (.stop))
 (.stop))
 (.stop)))))))
 (.ret)))
theorem k19 : FnC Tryz.prog 19 15 [4, 5] [] [.tmp 4, .cell 5 false 1] c19 2 := ⟨Tryz.f19, _, Tryz.func19, rfl, by decide, rfl, by decide, by kernel_rfl, by kernel_rfl⟩
/-- dipworks/watch.Where -/
def c21 : AC :=
 .seq (.reg [⟨(some 2), none, .box (.tmp 0)⟩,
 ⟨(some 4), none, .mov (.lit (.int .i64 0))⟩,
 ⟨(some 5), none, .mov (.lit (.bool false))⟩,
 ⟨(some 6), none, .alloc [(.int .i64 0)]⟩])
 (.seq (.reg [⟨(some 11), none, .mkfn (.func 59) [] [(.tmp 6)]⟩,
 ⟨none, none, .deferF (.tmp 11) []⟩])
 (.seq (.draw (.step ⟨(some 12), none, .load true 2 (.tmp 2)⟩ (
 .step ⟨(some 13), none, .load true 2 (.tmp 2)⟩ (
 .step ⟨(some 14), none, .mov (.tmp 1)⟩ (
 .ev ⟨(some 15), none, .call (.fn 32) [(.tmp 13), (.tmp 14)]⟩ [⟨(some 12), none, .load true 2 (.tmp 2)⟩] (
 .ev ⟨(some 16), none, .call (.fn 31) [(.tmp 12), (.tmp 15)]⟩ [⟨(some 13), none, .load true 2 (.tmp 2)⟩] (
 .step ⟨(some 7), none, .mov (.tmp 16)⟩ (
 .done))
 (.stop))
 (.stop))))))
 (.seq (.reg [⟨(some 8), none, .mov (.lit (.int .i64 0))⟩])
 (.seq (.seq (.reg [⟨(some 17), none, .mov (.tmp 7)⟩,
 ⟨(some 18), none, .call (.fn 56) [(.tmp 17)]⟩,
 ⟨(some 19), none, .mov (.lit (.int .i64 0))⟩])
 (.block 0 (.loop (.seq (.reg [⟨(some 20), none, .bin .lss (.tmp 19) (.lit (.int .i64 4))⟩])
 (.seq (.cond (.tmp 20) (.skip)
 (.exit 0))
 (.seq (.block 1 (.seq (.reg [⟨(some 21), none, .mov (.tmp 19)⟩,
 ⟨(some 22), none, .aidx 4 false 1 (.tmp 18) (.tmp 19)⟩,
 ⟨(some 9), none, .mov (.tmp 21)⟩,
 ⟨(some 10), none, .mov (.tmp 22)⟩])
 (.seq (.reg [⟨(some 23), none, .mov (.tmp 10)⟩,
 ⟨(some 24), none, .mov (.tmp 1)⟩,
 ⟨(some 25), none, .bin .shr (.tmp 23) (.tmp 24)⟩,
 ⟨(some 26), none, .bin .and (.tmp 25) (.lit (.int .i64 1))⟩,
 ⟨(some 27), none, .bin .eql (.tmp 26) (.lit (.int .i64 1))⟩])
 (.cond (.tmp 27) (.reg [⟨(some 28), none, .mov (.tmp 8)⟩,
 ⟨(some 29), none, .mov (.tmp 9)⟩,
 ⟨(some 30), none, .bin .shl (.lit (.int .i64 1)) (.tmp 29)⟩,
 ⟨(some 31), none, .bslice 1 (.int .i64 0) 2 [(0, (.tmp 28)), (1, (.tmp 30))]⟩,
 ⟨(some 32), none, .call (.fn 60) [(.tmp 31)]⟩,
 ⟨(some 8), none, .mov (.tmp 32)⟩])
 (.skip)))))
 (.reg [⟨(some 33), none, .bin .add (.tmp 19) (.lit (.int .i64 1))⟩,
 ⟨(some 19), none, .mov (.tmp 33)⟩])))))))
 (.seq (.reg [⟨(some 34), none, .mov (.tmp 8)⟩,
 ⟨(some 35), none, .mov (.tmp 7)⟩,
 ⟨(some 36), none, .nilck (.tmp 35)⟩,
 ⟨(some 37), none, .faddr 2 (.tmp 36)⟩,
 ⟨(some 38), none, .load false 1 (.tmp 37)⟩,
 ⟨(some 39), none, .mov (.tmp 1)⟩,
 ⟨(some 40), none, .call (.fn 61) [(.tmp 38), (.tmp 39)]⟩,
 ⟨(some 41), none, .call (.fn 53) [(.tmp 40)]⟩,
 ⟨(some 42), none, .bin .gtr (.tmp 41) (.lit (.int .i64 0))⟩,
 ⟨(some 4), none, .mov (.tmp 34)⟩,
 ⟨(some 5), none, .mov (.tmp 42)⟩,
 ⟨none, none, .store 1 (.tmp 6) (.lit (.int .i64 0))⟩])
 (.ret))))))
theorem k21 : FnC Tryz.prog 21 43 [4, 5, 6] [] [.tmp 4, .tmp 5, .cell 6 false 1] c21 2 := ⟨Tryz.f21, _, Tryz.func21, rfl, by decide, rfl, by decide, by kernel_rfl, by kernel_rfl⟩
/-- dipworks/watch.Shows$1 -/
def i29 : List AI := [⟨(some 2), none, .call (.fn 30) [(.tmp 1), (.tmp 0)]⟩]
theorem b29 : FnB Tryz.prog 29 3 1 i29 1 := ⟨Tryz.f29, _, _, _, _, Tryz.func29, rfl, by decide, rfl, by decide, rfl, rfl, rfl, rfl, by decide, by kernel_rfl⟩
/-- dipworks/watch.Fits$1 -/
def i42 : List AI := [⟨(some 2), none, .call (.fn 30) [(.tmp 1), (.tmp 0)]⟩]
theorem b42 : FnB Tryz.prog 42 3 1 i42 1 := ⟨Tryz.f42, _, _, _, _, Tryz.func42, rfl, by decide, rfl, by decide, rfl, rfl, rfl, rfl, by decide, by kernel_rfl⟩
/-- dipworks/watch.Count$1 -/
def i52 : List AI := [⟨(some 2), none, .call (.fn 30) [(.tmp 1), (.tmp 0)]⟩]
theorem b52 : FnB Tryz.prog 52 3 1 i52 1 := ⟨Tryz.f52, _, _, _, _, Tryz.func52, rfl, by decide, rfl, by decide, rfl, rfl, rfl, rfl, by decide, by kernel_rfl⟩
/-- dipworks/watch.Can$1 -/
def i55 : List AI := [⟨(some 2), none, .call (.fn 30) [(.tmp 1), (.tmp 0)]⟩]
theorem b55 : FnB Tryz.prog 55 3 1 i55 1 := ⟨Tryz.f55, _, _, _, _, Tryz.func55, rfl, by decide, rfl, by decide, rfl, rfl, rfl, rfl, by decide, by kernel_rfl⟩
/-- dipworks/watch.Where$1 -/
def i59 : List AI := [⟨(some 2), none, .call (.fn 30) [(.tmp 1), (.tmp 0)]⟩]
theorem b59 : FnB Tryz.prog 59 3 1 i59 1 := ⟨Tryz.f59, _, _, _, _, Tryz.func59, rfl, by decide, rfl, by decide, rfl, rfl, rfl, rfl, by decide, by kernel_rfl⟩
end Go.Proofs.YtnmmhkkmejbckaaGreatDoor

/- What a watch can show: the program's numbers. -/
namespace Go.Proofs.YtnmmhkkmejbckaaGreatDoor
open Go Go.Ab

theorem _root_.Go.Ab.Sub.gcE {nb : Nat} {s s' : St} (kp lv : List Nat) (h : s.gc kp lv = s') (h1 : gcOK kp s.σ = true) (h2 : keepsBase nb kp = true) : Sub nb s s' := h ▸ Sub.gc kp lv h1 h2
theorem gc_sub {kp : List Nat} {σ : List AO} {n id m es lo len : Nat} {xs : List T} (h : pos? kp id = none) (ho : σ[id]? = some (.row es (xs.map E.t))) (hm : xs.length = m) (hl : lo + len ≤ m) : E.gc kp σ (n + 2) (.sub id m es lo len) = .t (.slice es ((xs.drop lo).take len)) := by
  rw [E.gc]
  simp only [h, ho, List.length_map, hm, hl, and_self, if_true]
  rw [← List.map_drop, ← List.map_take, gc_row, allT_t]

abbrev isD : List AI := [⟨(some 2), none, .call (.fn 30) [(.tmp 1), (.tmp 0)]⟩]
theorem dfr_pan {n : Nat} (hb : FnB Tryz.prog n 3 1 isD 1) {σ : List AO} {id : Nat} {x : T} {e : Int} (h : σ[id]? = some (.cells [.t x])) : ADef Tryz.prog n [.ptr id 0] σ (some (stp1 e)) fun σ' => σ' = σ.set id (.cells [.t (vi e)]) := by
  refine ADef.walkB hb ?_
  simp only [go_sem, Nat.reduceEqDiff, pxT]
  refine lend1 (m := id) ((stopped_pan e x).mono fun o σ' h => (⟨_, ⟨h.1, rfl⟩, h.2⟩ : ∃ a', (o = .ret (.tup []) ∧ a' = AO.cells [.t (vi e)]) ∧ σ' = [a'])) h rfl (by simp only [E.rens, E.ren]; rfl) ?_
  rintro o a' ⟨rfl, rfl⟩
  simp only [go_sem, Out.ren, AO.ren, E.rens, E.ren]
theorem dfr_none {n : Nat} (hb : FnB Tryz.prog n 3 1 isD 1) {σ : List AO} {id : Nat} {x : T} (h : σ[id]? = some (.cells [.t x])) : ADef Tryz.prog n [.ptr id 0] σ none fun σ' => σ' = σ := by
  refine ADef.walkB hb ?_
  simp only [go_sem, Nat.reduceEqDiff, pxT]
  refine lend1 (m := id) ((stopped_none x).mono fun o σ' h => (⟨_, ⟨h.1, rfl⟩, h.2⟩ : ∃ a', (o = .ret (.tup []) ∧ a' = AO.cells [.t x]) ∧ σ' = [a'])) h rfl (by simp only [E.rens, E.ren]; rfl) ?_
  rintro o a' ⟨rfl, rfl⟩
  simp only [go_sem, Out.ren, AO.ren, E.rens, E.ren]
  obtain ⟨h1, h2⟩ := List.getElem?_eq_some_iff.1 h
  rw [← h2]
  exact List.set_getElem_self h1

theorem opnO_bad {w : Wa} (h : w.ok = false) (is : Bool) : opnO w is = .pan (stp1 1) := by unfold opnO; rw [h]; rfl
theorem opnO_rng {w : Wa} (h : w.ok = true) : opnO w false = .pan (stp1 2) := by unfold opnO; rw [h]; rfl
theorem opnO_ok {w : Wa} (h : w.ok = true) : opnO w true = .ret (.t (tTab w)) := by unfold opnO; rw [h]; rfl
theorem isO_nat {w : Wa} {i : Int} (h : w.isO i = true) : ∃ n : Nat, i = n ∧ n < w.os.length := by
  have := of_decide_eq_true h
  exact ⟨i.toNat, by omega, by omega⟩
theorem isF_nat {w : Wa} {i : Int} (h : w.isF i = true) : ∃ n : Nat, i = n ∧ n < w.fs.length := by
  have := of_decide_eq_true h
  exact ⟨i.toNat, by omega, by omega⟩

/-! ### Fits -/
def oneE (a e : Int) : Out := .ret (.tup [.t (vi a), .t (vi e)])
def specFits (w : Wa) (i : Int) : Int × Int := if w.ok then (if w.isF i then ((w.fits.getD i.toNat 0 : Nat), 0) else (0, 2)) else (0, 1)
set_option maxRecDepth 8000 in
set_option maxHeartbeats 4000000 in
theorem Fits_ok (w : Wa) (i : Int) (hL : Lens w) : ACall Tryz.prog 9 [.t (tWa w), .t (vi i)] [] (res (oneE (specFits w i).1 (specFits w i).2)) := by
  refine ACall.walkD k9 ?_
  have hi := isFind_ok w i hL
  have ho := open_ok w (w.isF i) hL
  unfold c9
  unfold tWa at hi ho ⊢
  unfold wa2 at hi ho ⊢
  simp only [go_sem, Nat.reduceEqDiff, Nat.reduceAdd]
  refine ACallL.quiet1 hi rfl rfl rfl ?_
  simp only [go_sem, Nat.reduceEqDiff, Nat.reduceAdd]
  cases hok : w.ok
  · rw [opnO_bad hok] at ho
    refine ACallL.fresh1 ho rfl ?_
    simp only [go_sem, Nat.reduceEqDiff]
    refine finDL_pan rfl rfl ((dfr_pan b42 rfl).mono ?_)
    rintro σ' rfl
    exact ⟨_, rfl, [], rfl, rfl, res_mk (by unfold specFits; rw [hok]; rfl)⟩
  cases hf : w.isF i
  · rw [hf, opnO_rng hok] at ho
    refine ACallL.fresh1 ho rfl ?_
    simp only [go_sem, Nat.reduceEqDiff]
    refine finDL_pan rfl rfl ((dfr_pan b42 rfl).mono ?_)
    rintro σ' rfl
    exact ⟨_, rfl, [], rfl, rfl, res_mk (by unfold specFits; rw [hok, hf]; rfl)⟩
  rw [hf, opnO_ok hok] at ho
  obtain ⟨n, rfl, hn⟩ := isF_nat hf
  have hlf : w.fits.length = w.fs.length := by unfold Wa.fits; simp
  have hx : w.fits[n]? = some (w.fits.getD n 0) := by rw [List.getD_eq_getElem?_getD, List.getElem?_eq_getElem (by omega)]; rfl
  have htn : (tNs w.fits)[n]? = some (vi (w.fits.getD n 0 : Nat)) := by unfold tNs; rw [List.getElem?_map, hx]; rfl
  have hn0 : ((n : Int) < 0) = False := eq_false (by omega)
  refine ACallL.fresh1 ho rfl ?_
  simp only [tTab, go_sem, Nat.reduceEqDiff, Nat.reduceAdd, undef, htn]
  refine finDL_ret rfl rfl ((dfr_none b42 rfl).mono ?_)
  rintro σ' rfl
  exact ⟨_, rfl, [], rfl, rfl, res_mk (by unfold specFits; rw [hok, hf]; rfl)⟩

/-! ### Shows -/
/-- The numbers, in order, once each. -/
def showL (o : Ow) (m : Int) : List Int := cmpN (srtN (handsL o m) (handsL o m).length) (handsL o m).length
def lsE (l : List Int) (e : Int) : Out := .ret (.tup [.t (if e = 0 then .slice 1 (l.map vi) else .lit (.slice none 0 0)), .t (vi e)])
def specShows (w : Wa) (i m : Int) : List Int × Int := if w.ok then (if w.isO i && wI m 0 1440 then (match w.os[i.toNat]? with
  | some o => if o.set_ ≤ m then (showL o m, 0) else ([], 11)
  | none => ([], 0)) else ([], 2)) else ([], 1)
set_option maxRecDepth 8000 in
set_option maxHeartbeats 8000000 in
theorem Shows_ok (w : Wa) (i m : Int) (hL : Lens w) : ACall Tryz.prog 7 [.t (tWa w), .t (vi i), .t (vi m)] [] (res (lsE (specShows w i m).1 (specShows w i m).2)) := by
  refine ACall.walkDM k7 ?_
  have hi := isOwner_ok w i hL
  have hm := isMinute_ok m
  have ho := open_ok w (w.isO i && wI m 0 1440) hL
  unfold c7
  unfold tWa at hi ho ⊢
  unfold wa2 at hi ho ⊢
  simp only [go_sem, Nat.reduceEqDiff, Nat.reduceAdd]
  refine ACallL.quiet1 hi rfl rfl rfl ?_
  cases h1 : w.isO i
  · rw [h1, Bool.false_and] at ho
    simp only [go_sem, Nat.reduceEqDiff, Nat.reduceAdd, undef]
    cases hok : w.ok
    · rw [opnO_bad hok] at ho
      refine ACallL.fresh1 ho rfl ?_
      simp only [go_sem, Nat.reduceEqDiff]
      refine finDML_pan 0 rfl rfl ((dfr_pan b29 rfl).mono ?_)
      rintro σ' rfl
      exact ⟨_, rfl, [], rfl, rfl, res_mk (by unfold specShows; rw [hok]; rfl)⟩
    · rw [opnO_rng hok] at ho
      refine ACallL.fresh1 ho rfl ?_
      simp only [go_sem, Nat.reduceEqDiff]
      refine finDML_pan 0 rfl rfl ((dfr_pan b29 rfl).mono ?_)
      rintro σ' rfl
      exact ⟨_, rfl, [], rfl, rfl, res_mk (by unfold specShows; rw [hok, h1]; rfl)⟩
  rw [h1, Bool.true_and] at ho
  simp only [go_sem, Nat.reduceEqDiff, Nat.reduceAdd, beq_self_eq_true]
  refine ACallL.quiet1 hm rfl rfl rfl ?_
  simp only [go_sem, Nat.reduceEqDiff, Nat.reduceAdd]
  cases hok : w.ok
  · rw [opnO_bad hok] at ho
    refine ACallL.fresh1 ho rfl ?_
    simp only [go_sem, Nat.reduceEqDiff]
    refine finDML_pan 0 rfl rfl ((dfr_pan b29 rfl).mono ?_)
    rintro σ' rfl
    exact ⟨_, rfl, [], rfl, rfl, res_mk (by unfold specShows; rw [hok]; rfl)⟩
  cases h2 : wI m 0 1440
  · rw [h2, opnO_rng hok] at ho
    refine ACallL.fresh1 ho rfl ?_
    simp only [go_sem, Nat.reduceEqDiff]
    refine finDML_pan 0 rfl rfl ((dfr_pan b29 rfl).mono ?_)
    rintro σ' rfl
    exact ⟨_, rfl, [], rfl, rfl, res_mk (by unfold specShows; rw [hok, h1, h2]; rfl)⟩
  rw [h2, opnO_ok hok] at ho
  obtain ⟨n, rfl, hn⟩ := isO_nat h1
  have hw := (w.ok_iff).1 hok
  have hx : w.os[n]? = some w.os[n] := List.getElem?_eq_getElem hn
  have hoo := hw.os _ (List.getElem_mem hn)
  have hm2 := of_decide_eq_true h2
  have hs : specShows w n m = if w.os[n].set_ ≤ m then (showL w.os[n] m, 0) else ([], 11) := by
    unfold specShows
    rw [hok, if_pos rfl, h1, h2, Bool.true_and, if_pos rfl, Int.toNat_natCast, hx]
  generalize w.os[n] = o at *
  have hto : tOw o = .agg [vi o.set_, vi o.lo, vi o.hi, vi o.huts] := rfl
  have hn0 : ((n : Int) < 0) = False := eq_false (by omega)
  have hh := hands_ok o m
  have hgen := hands_gen o hoo m hm2
  have bad := @must_ok false 11
  have good := @must_ok true 11
  refine ACallL.fresh1 ho rfl ?_
  cases hc : decide (m ≥ o.set_)
  · have hc' := of_decide_eq_false hc
    simp only [tTab, go_sem, Nat.reduceEqDiff, Nat.reduceAdd, hto, hx, List.getElem?_map, Option.map_some, hc]
    refine ACallL.quiet1 bad rfl rfl rfl ?_
    simp only [go_sem, Nat.reduceEqDiff, Nat.reduceAdd]
    refine finDML_pan 0 rfl rfl ((dfr_pan b29 rfl).mono ?_)
    rintro σ' rfl
    exact ⟨_, rfl, [], rfl, rfl, res_mk (by rw [hs, if_neg (by omega)]; rfl)⟩
  have hc' := of_decide_eq_true hc
  have hsl : showL o m = cmpN (srtN (handsL o m) (handsL o m).length) (handsL o m).length := rfl
  have hlen : (handsL o m).length = (o.hi + 1 - o.lo).toNat := by unfold handsL; rw [if_pos (by omega), List.length_map, rngI_len]
  have hg := hoo.gain
  have hl1 : 1 ≤ (handsL o m).length := by omega
  have hl3 : (handsL o m).length ≤ 3 := by omega
  have hs' : specShows w n m = (showL o m, 0) := by rw [hs, if_pos (by omega)]
  rw [hsl] at hs'
  have hsort := sort_ok (handsL o m) hl1 hl3
  have hcmp := compact_ok (srtN (handsL o m) (handsL o m).length) (by rw [srtN_len]; exact hl1) (by rw [srtN_len]; omega)
  rw [srtN_len] at hcmp
  rw [hto] at hh
  unfold tOw at hgen
  generalize handsL o m = L at *
  simp only [tTab, go_sem, Nat.reduceEqDiff, Nat.reduceAdd, hto, hx, List.getElem?_map, Option.map_some, hc]
  refine ACallL.quiet1 good rfl rfl rfl ?_
  simp only [go_sem, Nat.reduceEqDiff, Nat.reduceAdd, hto, hx, List.getElem?_map, Option.map_some]
  refine ACallL.fresh1 hh rfl ?_
  simp only [handsF, hto, go_sem]
  refine awpL_gcpS (s' := { env := [(6, .t (.lit (.slice none 0 0))), (7, .ptr 0 0), (9, .ptr 1 0), (43, .t (.fn (.func 74) [] [.ptr (.agg [vi o.set_, vi o.lo, vi o.hi, vi o.huts]) 0, .ptr (.agg [vi m]) 0, .ptr (.agg [.fn (.func 73) [] []]) 0]))], σ := [.cells [.t (vi 0)], .cells [.loc 2 0], rowI []], df := [.call 29 [.ptr 0 0]] }) ((Sub.ghostC 2 0 1 (by decide) rfl rfl).trans (Sub.gcE [1, 2, 3] [6, 7, 9, 43] (St.gc_mk rfl rfl rfl rfl) rfl rfl)) ?_
  simp only [go_sem]
  refine awpL_rangeS (f := 74) (fs := []) (cs := [.ptr (.agg [vi o.set_, vi o.lo, vi o.hi, vi o.huts]) 0, .ptr (.agg [vi m]) 0, .ptr (.agg [.fn (.func 73) [] []]) 0]) (vals L) (fun j σ => σ = [.cells [.t (vi 0)], .cells [.loc 2 j], rowI (L.take j)]) (fun _ _ => False) [0, 1, 2] [6, 7, 9]
    [(6, .t (.lit (.slice none 0 0))), (7, .ptr 0 0), (9, .ptr 1 0)] [.call 29 [.ptr 0 0]] rfl rfl rfl rfl hgen rfl rfl rfl ?_ ?_ (fun _ _ h => h.elim)
  · rintro l j v σ hv rfl
    rw [List.getElem?_map] at hv
    cases hxj : L[j]? with
    | none => rw [hxj] at hv; cases hv
    | some x =>
      rw [hxj] at hv
      cases hv
      have hjl := (List.getElem?_eq_some_iff.1 hxj).1
      have htk : L.take (j + 1) = L.take j ++ [x] := by rw [List.take_add_one, hxj]; rfl
      have x1 : (j + 1 ≤ maxLen) = True := eq_true (by unfold maxLen; omega)
      have x2 : ((j + 1) * 8 ≤ 140737488355328) = True := eq_true (by omega)
      have hlj : (L.take j).length = j := by rw [List.length_take]; omega
      have happ : (((L.take j).map vi).map E.t) ++ [E.t (vi x)] = (((L.take j ++ [x]).map vi).map E.t) := by simp
      rw [htk]
      generalize L.take j = P at *
      simp only [go_sem, Nat.reduceEqDiff, Nat.reduceAdd, Nat.reduceLT, undef, T.ofV, x1, x2, hlj, happ, List.length_map]
      refine ⟨[0, 1, 2], rfl, rfl, ?_⟩
      unfold σgc
      simp only [List.map_cons, List.map_nil, List.getD_cons_zero, List.getD_cons_succ, AO.gc, gc_row]
      rfl
  · rintro σ rfl
    rw [List.length_map, List.take_length]
    simp only [go_sem, Nat.reduceEqDiff]
    refine lend1 (m := 2) (R0 := fun o a' => o = .ret (.tup []) ∧ a' = rowI (srtN L L.length)) (hsort.mono fun o σ' h => ⟨_, ⟨h.1, rfl⟩, h.2⟩) rfl (rowI_ren _ _).symm rfl ?_
    rintro o2 a' ⟨rfl, rfl⟩
    rw [rowI_ren]
    simp only [go_sem, Nat.reduceEqDiff, Out.ren, E.rens, E.ren]
    have hsl2 := srtN_len L L.length
    generalize srtN L L.length = Y at *
    refine lend1 (m := 2) (R0 := CmpR Y) hcmp rfl (rowI_ren _ _).symm rfl ?_
    rintro o2 a' ⟨X, e, rfl, rfl, hXl, h⟩
    rw [rowI_ren]
    rw [hsl2] at h hXl
    rcases h with ⟨rfl, hX⟩ | ⟨k, rfl, hk, hX⟩
    · have e1 : lendR [2] 3 0 = 2 := rfl
      simp only [go_sem, Nat.reduceEqDiff, Nat.reduceAdd, undef, Out.ren, E.ren]
      refine finDML_ret 1 rfl rfl ((dfr_none b29 rfl).mono ?_)
      rintro σ' rfl
      refine ⟨_, rfl, [], rfl, rfl, res_mk ?_⟩
      rw [hs', ← hX]
      refine congrArg Out.ret ?_
      have key : ∀ σ : List AO, σ[2]? = some (rowI X) → E.gc [] σ 12 (.tup [.loc 2 L.length, .t (vi 0)]) = .tup [.t (.slice 1 (X.map vi)), .t (vi 0)] := fun σ h => by
        rw [E.gc]
        simp only [List.map_cons, List.map_nil]
        rw [gc_loc (n := 9) rfl h (by rw [List.length_map, hXl])]
        rfl
      exact key _ rfl
    · simp only [go_sem, Nat.reduceEqDiff, Nat.reduceAdd, undef, Out.ren, E.ren]
      refine finDML_ret 1 rfl rfl ((dfr_none b29 rfl).mono ?_)
      rintro σ' rfl
      refine ⟨_, rfl, [], rfl, rfl, res_mk ?_⟩
      rw [hs', ← hX]
      refine congrArg Out.ret ?_
      have key : ∀ σ : List AO, σ[2]? = some (rowI X) → E.gc [] σ 12 (.tup [.sub 2 L.length 1 0 k, .t (vi 0)]) = .tup [.t (.slice 1 ((X.take k).map vi)), .t (vi 0)] := fun σ h => by
        rw [E.gc]
        simp only [List.map_cons, List.map_nil]
        rw [gc_sub (n := 9) rfl h (by rw [List.length_map, hXl]) (by omega), List.drop_zero, ← List.map_take]
        rfl
      exact key _ rfl
end Go.Proofs.YtnmmhkkmejbckaaGreatDoor
