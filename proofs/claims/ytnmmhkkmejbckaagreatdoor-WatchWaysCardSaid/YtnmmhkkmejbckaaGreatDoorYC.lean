/- Proved here: laws that the statements need (WzC1t, WzH, WzI, WzJ, WzK). No conditions but those that each law states. -/
import Derived.Test.YtnmmhkkmejbckaaGreatDoorFL
import Derived.Test.YtnmmhkkmejbckaaGreatDoorFP
import Derived.Test.YtnmmhkkmejbckaaGreatDoorProg
import Derived.Test.YtnmmhkkmejbckaaGreatDoorYB

set_option linter.unusedSimpArgs false
set_option linter.unusedVariables false

/- Compiled code of functions, printed by program; each is checked to be the program's. No conditions. -/
namespace Go.Proofs.YtnmmhkkmejbckaaGreatDoor
open Go Go.Ab
/-- dipworks/watch.ways -/
def c53 : AC :=
 .seq (.reg [⟨(some 2), none, .mov (.lit (.int .i64 0))⟩])
 (.seq (.reg [⟨(some 6), none, .mov (.tmp 0)⟩,
 ⟨(some 7), none, .build [(.int .i64 0), .nilFunc, .nilFunc] [(0, 1, (.lit (.int .i64 1))), (1, 1, (.fn 80)), (2, 1, (.fn 81))]⟩,
 ⟨(some 8), none, .call (.fn 79) [(.tmp 6), (.tmp 7)]⟩,
 ⟨(some 5), none, .mov (.tmp 8)⟩,
 ⟨(some 9), none, .ext (.tmp 5) 0⟩,
 ⟨(some 10), none, .ext (.tmp 5) 1⟩,
 ⟨(some 3), none, .mov (.tmp 9)⟩,
 ⟨(some 4), none, .mov (.tmp 10)⟩])
 (.seq (.reg [⟨(some 11), none, .mov (.tmp 3)⟩,
 ⟨(some 2), none, .mov (.tmp 11)⟩])
 (.ret)))
theorem k53 : FnC Tryz.prog 53 12 [] [] [.tmp 2] c53 1 := ⟨Tryz.f53, _, Tryz.func53, rfl, by decide, rfl, by decide, by kernel_rfl, by kernel_rfl⟩
/-- (*dipworks/watch.table).told -/
def c56 : AC :=
 .seq (.reg [⟨(some 2), none, .alloc [(.int .i64 0), (.int .i64 0), (.int .i64 0), (.int .i64 0)]⟩])
 (.seq (.reg [⟨(some 6), none, .mov (.tmp 0)⟩,
 ⟨(some 7), none, .nilck (.tmp 6)⟩,
 ⟨(some 8), none, .faddr 2 (.tmp 7)⟩,
 ⟨(some 9), none, .load false 1 (.tmp 8)⟩,
 ⟨(some 10), none, .build [(.int .i64 0), (.int .i64 0), (.int .i64 0), (.int .i64 0)] []⟩,
 ⟨(some 11), none, .build [(.int .i64 0), (.int .i64 0), (.int .i64 0), (.int .i64 0), .nilFunc, .nilFunc] [(0, 4, (.tmp 10)), (4, 1, (.fn 83)), (5, 1, (.fn 84))]⟩,
 ⟨(some 12), none, .call (.fn 82) [(.tmp 9), (.tmp 11)]⟩,
 ⟨(some 5), none, .mov (.tmp 12)⟩,
 ⟨(some 13), none, .ext (.tmp 5) 0⟩,
 ⟨(some 14), none, .ext (.tmp 5) 1⟩,
 ⟨(some 3), none, .alloc [(.int .i64 0), (.int .i64 0), (.int .i64 0), (.int .i64 0)]⟩,
 ⟨none, none, .store 4 (.tmp 3) (.tmp 13)⟩,
 ⟨(some 4), none, .mov (.tmp 14)⟩])
 (.seq (.reg [⟨(some 15), none, .mov (.tmp 4)⟩,
 ⟨(some 16), none, .call (.fn 34) [(.tmp 15), (.lit (.int .i64 10))]⟩])
 (.seq (.reg [⟨(some 17), none, .load true 4 (.tmp 3)⟩,
 ⟨none, none, .store 4 (.tmp 2) (.tmp 17)⟩])
 (.ret))))
theorem k56 : FnC Tryz.prog 56 18 [2] [] [.cell 2 true 4] c56 1 := ⟨Tryz.f56, _, Tryz.func56, rfl, by decide, rfl, by decide, by kernel_rfl, by kernel_rfl⟩
/-- dipworks/watch.tell[int] -/
def c79 : AC :=
 .seq (.reg [⟨(some 2), none, .box (.tmp 0)⟩,
 ⟨(some 3), none, .box (.tmp 1)⟩,
 ⟨(some 4), none, .mov (.lit (.int .i64 0))⟩,
 ⟨(some 5), none, .mov (.lit (.bool false))⟩])
 (.seq (.reg [⟨(some 8), none, .mkmap (some [(some .i64), none, none, none, none, none], none)⟩,
 ⟨(some 6), none, .alloc [(.map none)]⟩,
 ⟨none, none, .store 1 (.tmp 6) (.tmp 8)⟩])
 (.seq (.reg [⟨(some 7), none, .alloc [.nilFunc]⟩])
 (.seq (.reg [⟨(some 9), none, .mkfn (.func 101) [] [(.tmp 2), (.tmp 3), (.tmp 6), (.tmp 7)]⟩,
 ⟨none, none, .store 1 (.tmp 7) (.tmp 9)⟩])
 (.seq (.reg [⟨(some 10), none, .load false 1 (.tmp 7)⟩,
 ⟨(some 11), none, .build [(.int .i64 0), (.bool false), (.bool false), (.bool false), (.bool false), (.bool false)] []⟩,
 ⟨(some 12), none, .call (.tmp 10) [(.tmp 11)]⟩,
 ⟨(some 13), none, .ext (.tmp 12) 0⟩,
 ⟨(some 14), none, .ext (.tmp 12) 1⟩,
 ⟨(some 4), none, .mov (.tmp 13)⟩,
 ⟨(some 5), none, .mov (.tmp 14)⟩])
 (.ret)))))
theorem k79 : FnC Tryz.prog 79 15 [] [] [.tmp 4, .tmp 5] c79 2 := ⟨Tryz.f79, _, Tryz.func79, rfl, by decide, rfl, by decide, by kernel_rfl, by kernel_rfl⟩
/-- dipworks/watch.ways$1 -/
def c80 : AC :=
 .seq (.reg [⟨(some 6), none, .mov (.lit (.int .i64 0))⟩])
 (.seq (.reg [⟨(some 7), none, .mov (.tmp 2)⟩,
 ⟨(some 6), none, .mov (.tmp 7)⟩])
 (.ret))
theorem k80 : FnC Tryz.prog 80 8 [] [] [.tmp 6] c80 3 := ⟨Tryz.f80, _, Tryz.func80, rfl, by decide, rfl, by decide, by kernel_rfl, by kernel_rfl⟩
/-- dipworks/watch.ways$2 -/
def c81 : AC :=
 .seq (.reg [⟨(some 4), none, .mov (.lit (.int .i64 0))⟩])
 (.seq (.reg [⟨(some 5), none, .mov (.tmp 0)⟩,
 ⟨(some 6), none, .mov (.tmp 1)⟩,
 ⟨(some 7), none, .bin .add (.tmp 5) (.tmp 6)⟩,
 ⟨(some 4), none, .mov (.tmp 7)⟩])
 (.ret))
theorem k81 : FnC Tryz.prog 81 8 [] [] [.tmp 4] c81 2 := ⟨Tryz.f81, _, Tryz.func81, rfl, by decide, rfl, by decide, by kernel_rfl, by kernel_rfl⟩
/-- dipworks/watch.tell[dipworks/watch.whose] -/
def c82 : AC :=
 .seq (.reg [⟨(some 2), none, .box (.tmp 0)⟩,
 ⟨(some 3), none, .box (.tmp 1)⟩,
 ⟨(some 4), none, .alloc [(.int .i64 0), (.int .i64 0), (.int .i64 0), (.int .i64 0)]⟩,
 ⟨(some 5), none, .mov (.lit (.bool false))⟩])
 (.seq (.reg [⟨(some 8), none, .mkmap (some [(some .i64), none, none, none, none, none], none)⟩,
 ⟨(some 6), none, .alloc [(.map none)]⟩,
 ⟨none, none, .store 1 (.tmp 6) (.tmp 8)⟩])
 (.seq (.reg [⟨(some 7), none, .alloc [.nilFunc]⟩])
 (.seq (.reg [⟨(some 9), none, .mkfn (.func 102) [] [(.tmp 2), (.tmp 3), (.tmp 6), (.tmp 7)]⟩,
 ⟨none, none, .store 1 (.tmp 7) (.tmp 9)⟩])
 (.seq (.reg [⟨(some 10), none, .load false 1 (.tmp 7)⟩,
 ⟨(some 11), none, .build [(.int .i64 0), (.bool false), (.bool false), (.bool false), (.bool false), (.bool false)] []⟩,
 ⟨(some 12), none, .call (.tmp 10) [(.tmp 11)]⟩,
 ⟨(some 13), none, .ext (.tmp 12) 0⟩,
 ⟨(some 14), none, .ext (.tmp 12) 1⟩,
 ⟨none, none, .store 4 (.tmp 4) (.tmp 13)⟩,
 ⟨(some 5), none, .mov (.tmp 14)⟩])
 (.ret)))))
theorem k82 : FnC Tryz.prog 82 15 [4] [] [.cell 4 true 4, .tmp 5] c82 2 := ⟨Tryz.f82, _, Tryz.func82, rfl, by decide, rfl, by decide, by kernel_rfl, by kernel_rfl⟩
/-- (*dipworks/watch.table).told$1 -/
def c83 : AC :=
 .seq (.reg [⟨(some 5), none, .box (.tmp 2)⟩,
 ⟨(some 6), none, .alloc [(.int .i64 0), (.int .i64 0), (.int .i64 0), (.int .i64 0)]⟩])
 (.seq (.reg [⟨(some 7), none, .mov (.tmp 0)⟩,
 ⟨(some 8), none, .mov (.tmp 1)⟩,
 ⟨(some 9), none, .bin .shl (.lit (.int .i64 1)) (.tmp 8)⟩,
 ⟨(some 10), none, .iaddrA 4 1 (.tmp 5) (.tmp 7)⟩,
 ⟨none, none, .store 1 (.tmp 10) (.tmp 9)⟩])
 (.seq (.reg [⟨(some 11), none, .load true 4 (.tmp 5)⟩,
 ⟨none, none, .store 4 (.tmp 6) (.tmp 11)⟩])
 (.ret)))
theorem k83 : FnC Tryz.prog 83 12 [6] [] [.cell 6 true 4] c83 3 := ⟨Tryz.f83, _, Tryz.func83, rfl, by decide, rfl, by decide, by kernel_rfl, by kernel_rfl⟩
/-- (*dipworks/watch.table).told$2 -/
def c84 : AC :=
 .seq (.reg [⟨(some 2), none, .box (.tmp 0)⟩,
 ⟨(some 3), none, .box (.tmp 1)⟩,
 ⟨(some 4), none, .alloc [(.int .i64 0), (.int .i64 0), (.int .i64 0), (.int .i64 0)]⟩])
 (.seq (.seq (.reg [⟨(some 6), none, .mov (.lit (.int .i64 0))⟩])
 (.block 0 (.loop (.seq (.reg [⟨(some 7), none, .bin .lss (.tmp 6) (.lit (.int .i64 4))⟩])
 (.seq (.cond (.tmp 7) (.skip)
 (.exit 0))
 (.seq (.block 1 (.seq (.reg [⟨(some 8), none, .mov (.tmp 6)⟩,
 ⟨(some 5), none, .mov (.tmp 8)⟩])
 (.draw (.step ⟨(some 9), none, .mov (.tmp 5)⟩ (
 .step ⟨(some 10), none, .mov (.tmp 5)⟩ (
 .step ⟨(some 11), none, .iaddrA 4 1 (.tmp 2) (.tmp 10)⟩ (
 .step ⟨(some 12), none, .load false 1 (.tmp 11)⟩ (
 .step ⟨(some 13), none, .mov (.tmp 5)⟩ (
 .step ⟨(some 14), none, .iaddrA 4 1 (.tmp 3) (.tmp 13)⟩ (
 .step ⟨(some 15), none, .load false 1 (.tmp 14)⟩ (
 .ev ⟨(some 16), none, .bslice 1 (.int .i64 0) 2 [(0, (.tmp 12)), (1, (.tmp 15))]⟩ [⟨(some 14), none, .iaddrA 4 1 (.tmp 3) (.tmp 13)⟩, ⟨(some 11), none, .iaddrA 4 1 (.tmp 2) (.tmp 10)⟩] (
 .ev ⟨(some 17), none, .call (.fn 60) [(.tmp 16)]⟩ [⟨(some 15), none, .load false 1 (.tmp 14)⟩, ⟨(some 14), none, .iaddrA 4 1 (.tmp 3) (.tmp 13)⟩, ⟨(some 12), none, .load false 1 (.tmp 11)⟩, ⟨(some 11), none, .iaddrA 4 1 (.tmp 2) (.tmp 10)⟩] (
 .step ⟨(some 18), none, .iaddrA 4 1 (.tmp 2) (.tmp 9)⟩ (
 .ev ⟨none, none, .store 1 (.tmp 18) (.tmp 17)⟩ [] (
 .done)
 (.stop)))
 (.stop))
 (.stop))))))))))))
 (.reg [⟨(some 19), none, .bin .add (.tmp 6) (.lit (.int .i64 1))⟩,
 ⟨(some 6), none, .mov (.tmp 19)⟩])))))))
 (.seq (.reg [⟨(some 20), none, .load true 4 (.tmp 2)⟩,
 ⟨none, none, .store 4 (.tmp 4) (.tmp 20)⟩])
 (.ret)))
theorem k84 : FnC Tryz.prog 84 21 [4] [] [.cell 4 true 4] c84 2 := ⟨Tryz.f84, _, Tryz.func84, rfl, by decide, rfl, by decide, by kernel_rfl, by kernel_rfl⟩
/-- dipworks/watch.tell[int]$1 -/
def c101 : AC :=
 .seq (.reg [⟨(some 5), none, .box (.tmp 0)⟩,
 ⟨(some 6), none, .mov (.lit (.int .i64 0))⟩,
 ⟨(some 7), none, .mov (.lit (.bool false))⟩])
 (.seq (.seq (.reg [⟨(some 17), none, .faddr 0 (.tmp 5)⟩,
 ⟨(some 18), none, .load false 1 (.tmp 17)⟩,
 ⟨(some 19), none, .load false 1 (.tmp 1)⟩,
 ⟨(some 20), none, .len (.tmp 19)⟩,
 ⟨(some 21), none, .bin .eql (.tmp 18) (.tmp 20)⟩])
 (.cond (.tmp 21) (.seq (.reg [⟨(some 22), none, .faddr 0 (.tmp 2)⟩,
 ⟨(some 23), none, .load false 1 (.tmp 22)⟩,
 ⟨(some 6), none, .mov (.tmp 23)⟩,
 ⟨(some 7), none, .mov (.lit (.bool true))⟩])
 (.ret))
 (.skip)))
 (.seq (.seq (.reg [⟨(some 25), none, .load false 1 (.tmp 3)⟩,
 ⟨(some 26), none, .load true 6 (.tmp 5)⟩,
 ⟨(some 27), none, .look (some [(some .i64), none, none, none, none, none], none) (.agg #[(.int .i64 0), (.bool false)]) true (.tmp 25) (.tmp 26)⟩,
 ⟨(some 24), none, .mov (.tmp 27)⟩,
 ⟨(some 28), none, .ext (.tmp 24) 0⟩,
 ⟨(some 29), none, .ext (.tmp 24) 1⟩,
 ⟨(some 8), none, .alloc [(.int .i64 0), (.bool false)]⟩,
 ⟨none, none, .store 2 (.tmp 8) (.tmp 28)⟩,
 ⟨(some 9), none, .mov (.tmp 29)⟩])
 (.seq (.reg [⟨(some 30), none, .mov (.tmp 9)⟩])
 (.cond (.tmp 30) (.seq (.draw (.step ⟨(some 31), none, .faddr 0 (.tmp 8)⟩ (
 .step ⟨(some 32), none, .load false 1 (.tmp 31)⟩ (
 .step ⟨(some 33), none, .faddr 1 (.tmp 8)⟩ (
 .step ⟨(some 34), none, .load false 1 (.tmp 33)⟩ (
 .step ⟨(some 6), none, .mov (.tmp 32)⟩ (
 .step ⟨(some 7), none, .mov (.tmp 34)⟩ (
 .done))))))))
 (.ret))
 (.skip))))
 (.seq (.reg [⟨(some 10), none, .alloc [(.int .i64 0), (.bool false)]⟩])
 (.seq (.seq (.reg [⟨(some 35), none, .faddr 1 (.tmp 5)⟩,
 ⟨(some 36), none, .load true 5 (.tmp 35)⟩,
 ⟨(some 37), none, .mov (.lit (.int .i64 0))⟩])
 (.block 0 (.loop (.seq (.reg [⟨(some 38), none, .bin .lss (.tmp 37) (.lit (.int .i64 5))⟩])
 (.seq (.cond (.tmp 38) (.skip)
 (.exit 0))
 (.seq (.block 1 (.seq (.reg [⟨(some 39), none, .mov (.tmp 37)⟩,
 ⟨(some 40), none, .aidx 5 false 1 (.tmp 36) (.tmp 37)⟩,
 ⟨(some 11), none, .mov (.tmp 39)⟩,
 ⟨(some 12), none, .mov (.tmp 40)⟩])
 (.seq (.seq (.reg [⟨(some 41), none, .mov (.tmp 12)⟩,
 ⟨(some 42), none, .mov (.tmp 41)⟩,
 ⟨(some 43), (some (42, false)), .load false 1 (.tmp 1)⟩,
 ⟨(some 44), (some (42, false)), .faddr 0 (.tmp 5)⟩,
 ⟨(some 45), (some (42, false)), .load false 1 (.tmp 44)⟩,
 ⟨(some 46), (some (42, false)), .iaddr 1 (.tmp 43) (.tmp 45)⟩,
 ⟨(some 47), (some (42, false)), .load false 1 (.tmp 46)⟩,
 ⟨(some 48), (some (42, false)), .mov (.tmp 11)⟩,
 ⟨(some 49), (some (42, false)), .bin .shr (.tmp 47) (.tmp 48)⟩,
 ⟨(some 50), (some (42, false)), .bin .and (.tmp 49) (.lit (.int .i64 1))⟩,
 ⟨(some 51), (some (42, false)), .bin .eql (.tmp 50) (.lit (.int .i64 0))⟩,
 ⟨(some 52), none, .pick (.tmp 42) (.lit (.bool true)) (.tmp 51)⟩])
 (.cond (.tmp 52) (.exit 1)
 (.skip)))
 (.seq (.reg [⟨(some 53), none, .load true 6 (.tmp 5)⟩,
 ⟨(some 13), none, .alloc [(.int .i64 0), (.bool false), (.bool false), (.bool false), (.bool false), (.bool false)]⟩,
 ⟨none, none, .store 6 (.tmp 13) (.tmp 53)⟩])
 (.seq (.reg [⟨(some 54), none, .faddr 0 (.tmp 13)⟩,
 ⟨(some 55), none, .load false 1 (.tmp 54)⟩,
 ⟨(some 56), none, .bin .add (.tmp 55) (.lit (.int .i64 1))⟩,
 ⟨(some 57), none, .faddr 0 (.tmp 13)⟩,
 ⟨none, none, .store 1 (.tmp 57) (.tmp 56)⟩])
 (.seq (.reg [⟨(some 58), none, .mov (.tmp 11)⟩,
 ⟨(some 59), none, .faddr 1 (.tmp 13)⟩,
 ⟨(some 60), none, .iaddrA 5 1 (.tmp 59) (.tmp 58)⟩,
 ⟨none, none, .store 1 (.tmp 60) (.lit (.bool true))⟩])
 (.seq (.reg [⟨(some 62), none, .load false 1 (.tmp 4)⟩,
 ⟨(some 63), none, .load true 6 (.tmp 13)⟩,
 ⟨(some 64), none, .call (.tmp 62) [(.tmp 63)]⟩,
 ⟨(some 61), none, .mov (.tmp 64)⟩,
 ⟨(some 65), none, .ext (.tmp 61) 0⟩,
 ⟨(some 66), none, .ext (.tmp 61) 1⟩,
 ⟨(some 14), none, .mov (.tmp 65)⟩,
 ⟨(some 15), none, .mov (.tmp 66)⟩])
 (.seq (.seq (.reg [⟨(some 67), none, .mov (.tmp 15)⟩,
 ⟨(some 68), none, .un .not (.tmp 67)⟩])
 (.cond (.tmp 68) (.exit 1)
 (.skip)))
 (.seq (.reg [⟨(some 69), none, .faddr 1 (.tmp 2)⟩,
 ⟨(some 70), none, .load false 1 (.tmp 69)⟩,
 ⟨(some 71), none, .faddr 0 (.tmp 5)⟩,
 ⟨(some 72), none, .load false 1 (.tmp 71)⟩,
 ⟨(some 73), none, .mov (.tmp 11)⟩,
 ⟨(some 74), none, .mov (.tmp 14)⟩,
 ⟨(some 75), none, .call (.tmp 70) [(.tmp 72), (.tmp 73), (.tmp 74)]⟩,
 ⟨(some 16), none, .mov (.tmp 75)⟩])
 (.seq (.seq (.reg [⟨(some 76), none, .faddr 1 (.tmp 10)⟩,
 ⟨(some 77), none, .load false 1 (.tmp 76)⟩])
 (.cond (.tmp 77) (.reg [⟨(some 78), none, .faddr 2 (.tmp 2)⟩,
 ⟨(some 79), none, .load false 1 (.tmp 78)⟩,
 ⟨(some 80), none, .faddr 0 (.tmp 10)⟩,
 ⟨(some 81), none, .load false 1 (.tmp 80)⟩,
 ⟨(some 82), none, .mov (.tmp 16)⟩,
 ⟨(some 83), none, .call (.tmp 79) [(.tmp 81), (.tmp 82)]⟩,
 ⟨(some 16), none, .mov (.tmp 83)⟩])
 (.skip)))
 (.reg [⟨(some 84), none, .mov (.tmp 16)⟩,
 ⟨(some 85), none, .build [(.int .i64 0), (.bool false)] [(0, 1, (.tmp 84)), (1, 1, (.lit (.bool true)))]⟩,
 ⟨none, none, .store 2 (.tmp 10) (.tmp 85)⟩])))))))))))
 (.reg [⟨(some 86), none, .bin .add (.tmp 37) (.lit (.int .i64 1))⟩,
 ⟨(some 37), none, .mov (.tmp 86)⟩])))))))
 (.seq (.reg [⟨(some 87), none, .load false 1 (.tmp 3)⟩,
 ⟨(some 88), none, .load true 6 (.tmp 5)⟩,
 ⟨(some 89), none, .load true 2 (.tmp 10)⟩,
 ⟨none, none, .mput (some [(some .i64), none, none, none, none, none], none) (.tmp 87) (.tmp 88) (.tmp 89)⟩])
 (.seq (.draw (.step ⟨(some 90), none, .faddr 0 (.tmp 10)⟩ (
 .step ⟨(some 91), none, .load false 1 (.tmp 90)⟩ (
 .step ⟨(some 92), none, .faddr 1 (.tmp 10)⟩ (
 .step ⟨(some 93), none, .load false 1 (.tmp 92)⟩ (
 .step ⟨(some 6), none, .mov (.tmp 91)⟩ (
 .step ⟨(some 7), none, .mov (.tmp 93)⟩ (
 .done))))))))
 (.ret)))))))
theorem k101 : FnC Tryz.prog 101 94 [] [] [.tmp 6, .tmp 7] c101 5 := ⟨Tryz.f101, _, Tryz.func101, rfl, by decide, rfl, by decide, by kernel_rfl, by kernel_rfl⟩
/-- dipworks/watch.tell[dipworks/watch.whose]$1 -/
def c102 : AC :=
 .seq (.reg [⟨(some 5), none, .box (.tmp 0)⟩,
 ⟨(some 6), none, .alloc [(.int .i64 0), (.int .i64 0), (.int .i64 0), (.int .i64 0)]⟩,
 ⟨(some 7), none, .mov (.lit (.bool false))⟩])
 (.seq (.seq (.reg [⟨(some 17), none, .faddr 0 (.tmp 5)⟩,
 ⟨(some 18), none, .load false 1 (.tmp 17)⟩,
 ⟨(some 19), none, .load false 1 (.tmp 1)⟩,
 ⟨(some 20), none, .len (.tmp 19)⟩,
 ⟨(some 21), none, .bin .eql (.tmp 18) (.tmp 20)⟩])
 (.cond (.tmp 21) (.seq (.reg [⟨(some 22), none, .faddr 0 (.tmp 2)⟩,
 ⟨(some 23), none, .load true 4 (.tmp 22)⟩,
 ⟨none, none, .store 4 (.tmp 6) (.tmp 23)⟩,
 ⟨(some 7), none, .mov (.lit (.bool true))⟩])
 (.ret))
 (.skip)))
 (.seq (.seq (.reg [⟨(some 25), none, .load false 1 (.tmp 3)⟩,
 ⟨(some 26), none, .load true 6 (.tmp 5)⟩,
 ⟨(some 27), none, .look (some [(some .i64), none, none, none, none, none], none) (.agg #[(.int .i64 0), (.int .i64 0), (.int .i64 0), (.int .i64 0), (.bool false)]) true (.tmp 25) (.tmp 26)⟩,
 ⟨(some 24), none, .mov (.tmp 27)⟩,
 ⟨(some 28), none, .ext (.tmp 24) 0⟩,
 ⟨(some 29), none, .ext (.tmp 24) 1⟩,
 ⟨(some 8), none, .alloc [(.int .i64 0), (.int .i64 0), (.int .i64 0), (.int .i64 0), (.bool false)]⟩,
 ⟨none, none, .store 5 (.tmp 8) (.tmp 28)⟩,
 ⟨(some 9), none, .mov (.tmp 29)⟩])
 (.seq (.reg [⟨(some 30), none, .mov (.tmp 9)⟩])
 (.cond (.tmp 30) (.seq (.draw (.step ⟨(some 31), none, .faddr 0 (.tmp 8)⟩ (
 .step ⟨(some 32), none, .load true 4 (.tmp 31)⟩ (
 .step ⟨(some 33), none, .faddr 4 (.tmp 8)⟩ (
 .step ⟨(some 34), none, .load false 1 (.tmp 33)⟩ (
 .ev ⟨none, none, .store 4 (.tmp 6) (.tmp 32)⟩ [⟨(some 34), none, .load false 1 (.tmp 33)⟩, ⟨(some 33), none, .faddr 4 (.tmp 8)⟩] (
 .step ⟨(some 7), none, .mov (.tmp 34)⟩ (
 .done))
 (.stop)))))))
 (.ret))
 (.skip))))
 (.seq (.reg [⟨(some 10), none, .alloc [(.int .i64 0), (.int .i64 0), (.int .i64 0), (.int .i64 0), (.bool false)]⟩])
 (.seq (.seq (.reg [⟨(some 35), none, .faddr 1 (.tmp 5)⟩,
 ⟨(some 36), none, .load true 5 (.tmp 35)⟩,
 ⟨(some 37), none, .mov (.lit (.int .i64 0))⟩])
 (.block 0 (.loop (.seq (.reg [⟨(some 38), none, .bin .lss (.tmp 37) (.lit (.int .i64 5))⟩])
 (.seq (.cond (.tmp 38) (.skip)
 (.exit 0))
 (.seq (.block 1 (.seq (.reg [⟨(some 39), none, .mov (.tmp 37)⟩,
 ⟨(some 40), none, .aidx 5 false 1 (.tmp 36) (.tmp 37)⟩,
 ⟨(some 11), none, .mov (.tmp 39)⟩,
 ⟨(some 12), none, .mov (.tmp 40)⟩])
 (.seq (.seq (.reg [⟨(some 41), none, .mov (.tmp 12)⟩,
 ⟨(some 42), none, .mov (.tmp 41)⟩,
 ⟨(some 43), (some (42, false)), .load false 1 (.tmp 1)⟩,
 ⟨(some 44), (some (42, false)), .faddr 0 (.tmp 5)⟩,
 ⟨(some 45), (some (42, false)), .load false 1 (.tmp 44)⟩,
 ⟨(some 46), (some (42, false)), .iaddr 1 (.tmp 43) (.tmp 45)⟩,
 ⟨(some 47), (some (42, false)), .load false 1 (.tmp 46)⟩,
 ⟨(some 48), (some (42, false)), .mov (.tmp 11)⟩,
 ⟨(some 49), (some (42, false)), .bin .shr (.tmp 47) (.tmp 48)⟩,
 ⟨(some 50), (some (42, false)), .bin .and (.tmp 49) (.lit (.int .i64 1))⟩,
 ⟨(some 51), (some (42, false)), .bin .eql (.tmp 50) (.lit (.int .i64 0))⟩,
 ⟨(some 52), none, .pick (.tmp 42) (.lit (.bool true)) (.tmp 51)⟩])
 (.cond (.tmp 52) (.exit 1)
 (.skip)))
 (.seq (.reg [⟨(some 53), none, .load true 6 (.tmp 5)⟩,
 ⟨(some 13), none, .alloc [(.int .i64 0), (.bool false), (.bool false), (.bool false), (.bool false), (.bool false)]⟩,
 ⟨none, none, .store 6 (.tmp 13) (.tmp 53)⟩])
 (.seq (.reg [⟨(some 54), none, .faddr 0 (.tmp 13)⟩,
 ⟨(some 55), none, .load false 1 (.tmp 54)⟩,
 ⟨(some 56), none, .bin .add (.tmp 55) (.lit (.int .i64 1))⟩,
 ⟨(some 57), none, .faddr 0 (.tmp 13)⟩,
 ⟨none, none, .store 1 (.tmp 57) (.tmp 56)⟩])
 (.seq (.reg [⟨(some 58), none, .mov (.tmp 11)⟩,
 ⟨(some 59), none, .faddr 1 (.tmp 13)⟩,
 ⟨(some 60), none, .iaddrA 5 1 (.tmp 59) (.tmp 58)⟩,
 ⟨none, none, .store 1 (.tmp 60) (.lit (.bool true))⟩])
 (.seq (.reg [⟨(some 62), none, .load false 1 (.tmp 4)⟩,
 ⟨(some 63), none, .load true 6 (.tmp 13)⟩,
 ⟨(some 64), none, .call (.tmp 62) [(.tmp 63)]⟩,
 ⟨(some 61), none, .mov (.tmp 64)⟩,
 ⟨(some 65), none, .ext (.tmp 61) 0⟩,
 ⟨(some 66), none, .ext (.tmp 61) 1⟩,
 ⟨(some 14), none, .alloc [(.int .i64 0), (.int .i64 0), (.int .i64 0), (.int .i64 0)]⟩,
 ⟨none, none, .store 4 (.tmp 14) (.tmp 65)⟩,
 ⟨(some 15), none, .mov (.tmp 66)⟩])
 (.seq (.seq (.reg [⟨(some 67), none, .mov (.tmp 15)⟩,
 ⟨(some 68), none, .un .not (.tmp 67)⟩])
 (.cond (.tmp 68) (.exit 1)
 (.skip)))
 (.seq (.reg [⟨(some 69), none, .faddr 4 (.tmp 2)⟩,
 ⟨(some 70), none, .load false 1 (.tmp 69)⟩,
 ⟨(some 71), none, .faddr 0 (.tmp 5)⟩,
 ⟨(some 72), none, .load false 1 (.tmp 71)⟩,
 ⟨(some 73), none, .mov (.tmp 11)⟩,
 ⟨(some 74), none, .load true 4 (.tmp 14)⟩,
 ⟨(some 75), none, .call (.tmp 70) [(.tmp 72), (.tmp 73), (.tmp 74)]⟩,
 ⟨(some 16), none, .alloc [(.int .i64 0), (.int .i64 0), (.int .i64 0), (.int .i64 0)]⟩,
 ⟨none, none, .store 4 (.tmp 16) (.tmp 75)⟩])
 (.seq (.seq (.reg [⟨(some 76), none, .faddr 4 (.tmp 10)⟩,
 ⟨(some 77), none, .load false 1 (.tmp 76)⟩])
 (.cond (.tmp 77) (.reg [⟨(some 78), none, .faddr 5 (.tmp 2)⟩,
 ⟨(some 79), none, .load false 1 (.tmp 78)⟩,
 ⟨(some 80), none, .faddr 0 (.tmp 10)⟩,
 ⟨(some 81), none, .load true 4 (.tmp 80)⟩,
 ⟨(some 82), none, .load true 4 (.tmp 16)⟩,
 ⟨(some 83), none, .call (.tmp 79) [(.tmp 81), (.tmp 82)]⟩,
 ⟨none, none, .store 4 (.tmp 16) (.tmp 83)⟩])
 (.skip)))
 (.reg [⟨(some 84), none, .load true 4 (.tmp 16)⟩,
 ⟨(some 85), none, .build [(.int .i64 0), (.int .i64 0), (.int .i64 0), (.int .i64 0), (.bool false)] [(0, 4, (.tmp 84)), (4, 1, (.lit (.bool true)))]⟩,
 ⟨none, none, .store 5 (.tmp 10) (.tmp 85)⟩])))))))))))
 (.reg [⟨(some 86), none, .bin .add (.tmp 37) (.lit (.int .i64 1))⟩,
 ⟨(some 37), none, .mov (.tmp 86)⟩])))))))
 (.seq (.reg [⟨(some 87), none, .load false 1 (.tmp 3)⟩,
 ⟨(some 88), none, .load true 6 (.tmp 5)⟩,
 ⟨(some 89), none, .load true 5 (.tmp 10)⟩,
 ⟨none, none, .mput (some [(some .i64), none, none, none, none, none], none) (.tmp 87) (.tmp 88) (.tmp 89)⟩])
 (.seq (.draw (.step ⟨(some 90), none, .faddr 0 (.tmp 10)⟩ (
 .step ⟨(some 91), none, .load true 4 (.tmp 90)⟩ (
 .step ⟨(some 92), none, .faddr 4 (.tmp 10)⟩ (
 .step ⟨(some 93), none, .load false 1 (.tmp 92)⟩ (
 .ev ⟨none, none, .store 4 (.tmp 6) (.tmp 91)⟩ [⟨(some 93), none, .load false 1 (.tmp 92)⟩, ⟨(some 92), none, .faddr 4 (.tmp 10)⟩] (
 .step ⟨(some 7), none, .mov (.tmp 93)⟩ (
 .done))
 (.stop)))))))
 (.ret)))))))
theorem k102 : FnC Tryz.prog 102 94 [6] [] [.cell 6 true 4, .tmp 7] c102 5 := ⟨Tryz.f102, _, Tryz.func102, rfl, by decide, rfl, by decide, by kernel_rfl, by kernel_rfl⟩
end Go.Proofs.YtnmmhkkmejbckaaGreatDoor

/- What is told of all truths: the memo. -/
namespace Go.Proofs.YtnmmhkkmejbckaaGreatDoor
open Go Go.Ab

abbrev shA : Sh := (some [some .i64, none, none, none, none, none], none)
abbrev b2i (b : Bool) : Int := if b then 1 else 0
abbrev keyA (k : Nat) (h0 h1 h2 h3 h4 : Bool) : List Int := [(k : Int), b2i h0, b2i h1, b2i h2, b2i h3, b2i h4]
theorem b2i_ne (b : Bool) : (b2i b != 0) = b := by cases b <;> rfl
/-- What stands in the memo is right. -/
def MapOK (n : Nat) (g : Nat → List Bool → T) (ks : List (Nat × List Int)) (xs : List T) : Prop :=
  ks.length = xs.length ∧ ∀ (i : Nat) e x, ks[i]? = some e → xs[i]? = some x → ∃ (k : Nat) (a0 a1 a2 a3 a4 : Int), e.2 = [(k : Int), a0, a1, a2, a3, a4] ∧ k ≤ n ∧ x = g k [a0 != 0, a1 != 0, a2 != 0, a3 != 0, a4 != 0]
theorem MapOK.nil (n : Nat) (g : Nat → List Bool → T) : MapOK n g [] [] := ⟨rfl, fun i e x h => by simp at h⟩
theorem MapOK.find {n : Nat} {g : Nat → List Bool → T} {ks : List (Nat × List Int)} {xs : List T} (M : MapOK n g ks xs) {k i : Nat} {h0 h1 h2 h3 h4 : Bool} (hf : kfind shA ks (keyA k h0 h1 h2 h3 h4) = some i) : xs[i]? = some (g k [h0, h1, h2, h3, h4]) := by
  unfold kfind at hf
  obtain ⟨hi, hp, _⟩ := List.findIdx?_eq_some_iff_getElem.1 hf
  have hix : i < xs.length := by rw [← M.1]; exact hi
  obtain ⟨k', a0, a1, a2, a3, a4, e1, _, e2⟩ := M.2 i ks[i] xs[i] (List.getElem?_eq_getElem hi) (List.getElem?_eq_getElem hix)
  rw [e1] at hp
  simp only [shKinds, kEq, cellEq, Bool.and_true, Bool.and_eq_true, beq_iff_eq] at hp
  obtain ⟨c, c0, c1, c2, c3, c4⟩ := hp
  have hk : k' = k := by omega
  subst hk
  rw [List.getElem?_eq_getElem hix, e2, ← c0, ← c1, ← c2, ← c3, ← c4]
  simp only [b2i_ne]
theorem MapOK.put {n : Nat} {g : Nat → List Bool → T} {ks : List (Nat × List Int)} {xs : List T} (M : MapOK n g ks xs) {k i : Nat} {h0 h1 h2 h3 h4 : Bool} (hf : kfind shA ks (keyA k h0 h1 h2 h3 h4) = some i) : MapOK n g ks (xs.set i (g k [h0, h1, h2, h3, h4])) := by
  have hx := M.find hf
  have : xs.set i (g k [h0, h1, h2, h3, h4]) = xs := by
    apply List.ext_getElem?
    intro j
    by_cases hj : i = j
    · subst hj
      rw [List.getElem?_set_self (List.getElem?_eq_some_iff.1 hx).1, hx]
    · rw [List.getElem?_set_ne hj]
  rw [this]; exact M
theorem MapOK.new {n : Nat} {g : Nat → List Bool → T} {ks : List (Nat × List Int)} {xs : List T} (M : MapOK n g ks xs) {k clk : Nat} {h0 h1 h2 h3 h4 : Bool} (hh : k ≤ n) : MapOK n g (ks ++ [(clk, keyA k h0 h1 h2 h3 h4)]) (xs ++ [g k [h0, h1, h2, h3, h4]]) := by
  refine ⟨by simp [M.1], fun i e x h1' h2' => ?_⟩
  by_cases hi : i < ks.length
  · rw [List.getElem?_append_left hi] at h1'
    rw [List.getElem?_append_left (by rw [← M.1]; exact hi)] at h2'
    exact M.2 i e x h1' h2'
  · have hlt := (List.getElem?_eq_some_iff.1 h1').1
    simp at hlt
    obtain rfl : i = ks.length := by omega
    rw [List.getElem?_append_right (by omega)] at h1'
    rw [M.1, List.getElem?_append_right (by omega)] at h2'
    simp at h1' h2'
    subst h1' h2'
    refine ⟨k, b2i h0, b2i h1, b2i h2, b2i h3, b2i h4, rfl, hh, ?_⟩
    simp only [b2i_ne]

/-- The objects of such a call. -/
def onE (fnum : Nat) : E := .fn (.func fnum) [] [.ptr 0 0, .ptr 1 0, .ptr 2 0, .ptr 3 0]
def σ5 (fnum : Nat) (f : List Nat) (sum : List T) (ks : List (Nat × List Int)) (xs : List T) (clk : Nat) : List AO :=
  [.cells [.t (.slice 1 (tNs f))], .cells (sum.map .t), .cells [.map 4], .cells [onE fnum], .map shA ks xs clk]

/-- The same over whatever store. -/
theorem lend5 {fnum : Nat} {f : List Nat} {sum : List T} {OK : List (Nat × List Int) → List T → Prop} {ks : List (Nat × List Int)} {xs : List T} {clk : Nat} {x v v' : T}
    (h : ACall Tryz.prog fnum [.t x, .ptr 0 0, .ptr 1 0, .ptr 2 0, .ptr 3 0] (σ5 fnum f sum ks xs clk) fun o σ' => o = .ret (.tup [.t v, .t v']) ∧ ∃ ks' xs' clk', OK ks' xs' ∧ σ' = σ5 fnum f sum ks' xs' clk')
    {a b c d e : Nat} {σ : List AO} {R : Lz (Out → List AO → Prop)} (hnd : [a, b, c, d, e].Nodup) (ha : σ[a]? = some (.cells [.t (.slice 1 (tNs f))])) (hb : σ[b]? = some (.cells (sum.map .t))) (hc : σ[c]? = some (.cells [.map e]))
    (hd : σ[d]? = some (.cells [.fn (.func fnum) [] [.ptr a 0, .ptr b 0, .ptr c 0, .ptr d 0]])) (he : σ[e]? = some (.map shA ks xs clk))
    (hk : ∀ ks' xs' clk', OK ks' xs' → R.get (.ret (.tup [.t v, .t v'])) (σ.set e (.map shA ks' xs' clk'))) : @ACallL Tryz.prog fnum [.t x, .ptr a 0, .ptr b 0, .ptr c 0, .ptr d 0] σ R := by
  have hal := (List.getElem?_eq_some_iff.1 ha).1
  have hbl := (List.getElem?_eq_some_iff.1 hb).1
  have hcl := (List.getElem?_eq_some_iff.1 hc).1
  have hdl := (List.getElem?_eq_some_iff.1 hd).1
  have hel := (List.getElem?_eq_some_iff.1 he).1
  have e0 : lendR [a, b, c, d, e] σ.length 0 = a := rfl
  have e1 : lendR [a, b, c, d, e] σ.length 1 = b := rfl
  have e2 : lendR [a, b, c, d, e] σ.length 2 = c := rfl
  have e3 : lendR [a, b, c, d, e] σ.length 3 = d := rfl
  have e4 : lendR [a, b, c, d, e] σ.length 4 = e := rfl
  have es : ∀ (ρ : Nat → Nat) (l : List T), E.rens ρ (l.map .t) = l.map .t := fun ρ l => by rw [E.rens_map, List.map_map]; rfl
  have hlt : ∀ k ∈ [a, b, c, d, e], k < σ.length := by simp; omega
  refine ACall.mono (ACall.lend [a, b, c, d, e] h hnd hlt rfl (fun i o ho => ?_) (args := [.t x, .ptr a 0, .ptr b 0, .ptr c 0, .ptr d 0]) (by simp [E.rens_map, E.ren, e0, e1, e2, e3])) ?_
  · match i, ho with
    | 0, ho => simp [σ5] at ho; subst ho; rw [e0, ha]; simp [AO.ren, E.rens, E.ren]
    | 1, ho => simp [σ5] at ho; subst ho; rw [e1, hb]; simp [AO.ren, es]
    | 2, ho => simp [σ5] at ho; subst ho; rw [e2, hc]; simp [AO.ren, E.rens, E.ren, e4]
    | 3, ho => simp [σ5] at ho; subst ho; rw [e3, hd]; simp [AO.ren, E.rens, E.ren, onE, e0, e1, e2, e3]
    | 4, ho => simp [σ5] at ho; subst ho; rw [e4, he]; simp [AO.ren]
  · rintro o σ1 ⟨o0, σ0, ⟨rfl, ks', xs', clk', hOK, rfl⟩, _, rfl, rfl⟩
    have := hk ks' xs' clk' hOK
    have hs : lendB σ [a, b, c, d, e] ((σ5 fnum f sum ks' xs' clk').map (AO.ren (lendR [a, b, c, d, e] σ.length))) = σ.set e (.map shA ks' xs' clk') := by
      apply List.ext_getElem?
      intro i
      by_cases hi : i ∈ [a, b, c, d, e]
      · obtain ⟨j, hj⟩ := List.getElem?_of_mem hi
        rw [lendB_kept (by simp [σ5]) hnd hlt hj]
        simp only [List.nodup_cons, List.mem_cons, List.not_mem_nil, or_false, not_or, List.nodup_nil, and_true] at hnd
        match j, hj with
        | 0, hj => simp at hj; subst hj; rw [List.getElem?_set_ne (by omega), ha]; simp [σ5, AO.ren, E.rens, E.ren]
        | 1, hj => simp at hj; subst hj; rw [List.getElem?_set_ne (by omega), hb]; simp [σ5, AO.ren, es]
        | 2, hj => simp at hj; subst hj; rw [List.getElem?_set_ne (by omega), hc]; simp [σ5, AO.ren, E.rens, E.ren, e4]
        | 3, hj => simp at hj; subst hj; rw [List.getElem?_set_ne (by omega), hd]; simp [σ5, AO.ren, E.rens, E.ren, onE, e0, e1, e2, e3]
        | 4, hj => simp at hj; subst hj; rw [List.getElem?_set_self hel]; simp [σ5, AO.ren]
        | j + 5, hj => simp at hj
      · by_cases hil : i < σ.length
        · rw [lendB_other hil hi, List.getElem?_set_ne (fun e' => hi (by simp [e']))]
        · rw [List.getElem?_eq_none (by rw [lendB_length (by simp [σ5])]; simp [σ5]; omega), List.getElem?_eq_none (by rw [List.length_set]; omega)]
    rw [hs]
    exact this

/-! ### Bounds -/
theorem truT_many (fits : List Nat) : ∀ (l : Nat) (has : List Bool), (truT fits l has).length ≤ 5 ^ l
  | 0, _ => by simp [truT]
  | l + 1, has => by
    unfold truT
    have gen : ∀ (m : Nat) (F : Nat → List (List Nat)), (∀ i, (F i).length ≤ 5 ^ l) → ((List.range m).flatMap F).length ≤ m * 5 ^ l := by
      intro m F hF
      induction m with
      | zero => simp
      | succ m ih =>
        rw [List.range_succ, List.flatMap_append, List.length_append, Nat.succ_mul]
        have := hF m
        simp only [List.flatMap_cons, List.flatMap_nil, List.append_nil]
        omega
    have := gen 5 (fun i => if has.getD i true || !(fits.getD (fits.length - (l + 1)) 0).testBit i then [] else (truT fits l (has.set i true)).map (i :: ·)) fun i => by
      split
      · simp
      · rw [List.length_map]; exact truT_many fits l _
    rw [Nat.pow_succ, Nat.mul_comm (5 ^ l)]
    exact this
theorem tellN_le {fits : List Nat} {l : Nat} (hl : l ≤ fits.length) (hl4 : l ≤ 4) {has : List Bool} {v : Int} (h : tellV telN fits l has = some v) : 0 ≤ v ∧ v ≤ 625 := by
  rw [tell_eq (tells_N _) l hl] at h
  unfold some? at h
  split at h
  · cases h
  · injection h with h
    replace h : ((truT fits l has).length : Int) = v := h
    have h1 := truT_many fits l has
    have h2 : 5 ^ l ≤ 5 ^ 4 := Nat.pow_le_pow_right (by omega) hl4
    generalize 5 ^ l = q at *
    omega
theorem accN_le {val : List Bool → Option Int} {k fit : Nat} {has : List Bool} (hv : ∀ h v, val h = some v → 0 ≤ v ∧ v ≤ 625) : ∀ (i : Nat) (v : Int), (List.range i).foldl (accT val telN k fit has) none = some v → 0 ≤ v ∧ v ≤ 625 * i
  | 0, v, h => by cases h
  | i + 1, v, h => by
    rw [List.range_succ, List.foldl_append] at h
    simp only [List.foldl_cons, List.foldl_nil] at h
    have ih := accN_le (k := k) (fit := fit) (has := has) hv i
    generalize (List.range i).foldl (accT val telN k fit has) none = acc at *
    unfold accT at h
    split at h
    · have := ih v h; omega
    · cases hr : val (has.set i true) with
      | none => rw [hr] at h; have := ih v h; omega
      | some r =>
        rw [hr] at h
        have hr2 := hv _ _ hr
        cases acc with
        | none =>
          simp only [telN, Option.some.injEq] at h
          omega
        | some a =>
          have := ih a rfl
          simp only [telN, Option.some.injEq] at h
          omega
end Go.Proofs.YtnmmhkkmejbckaaGreatDoor

/- In how many ways: the closure that calls itself. -/
namespace Go.Proofs.YtnmmhkkmejbckaaGreatDoor
open Go Go.Ab

/-- What is known, as a struct. -/
def kI : Option Int → List T
  | none => [vi 0, vb false]
  | some n => [vi n, vb true]
def kO : Option Int → Out
  | none => .ret (.tup [.t (vi 0), .t (vb false)])
  | some n => .ret (.tup [.t (vi n), .t (vb true)])
def gI (f : List Nat) (k : Nat) (has : List Bool) : T := .agg (kI (tellV telN f (f.length - k) has))
def sumI : List T := [vi 1, .fn (.func 80) [] [], .fn (.func 81) [] []]
theorem moreI_ok (a b r : Int) : ACall Tryz.prog 80 [.t (vi a), .t (vi b), .t (vi r)] [] (ret (vi r)) := by
  refine ACall.walk k80 ?_
  unfold c80
  simp only [go_sem, Nat.reduceEqDiff, Nat.reduceAdd]
  exact finL_ret [] ⟨rfl, rfl, rfl, rfl, _, rfl, ret_mk rfl⟩
theorem joinI_ok (a b : Int) (h : -1000000 ≤ a + b ∧ a + b ≤ 1000000) : ACall Tryz.prog 81 [.t (vi a), .t (vi b)] [] (ret (vi (a + b))) := by
  have w : IntKind.i64.wrap (a + b) = a + b := wrap_id (by omega) (by omega)
  refine ACall.walk k81 ?_
  unfold c81
  simp only [go_sem, Nat.reduceEqDiff, w]
  exact finL_ret [] ⟨rfl, rfl, rfl, rfl, _, rfl, ret_mk rfl⟩
theorem toKey_at (k : Nat) (h0 h1 h2 h3 h4 : Bool) : toKey (some [some .i64, none, none, none, none, none], none) (.t (.agg [vi k, vb h0, vb h1, vb h2, vb h3, vb h4])) = some (keyA k h0 h1 h2 h3 h4) := rfl
abbrev accI (f : List Nat) (l k : Nat) (has : List Bool) (i : Nat) : Option Int := (List.range i).foldl (accT (tellV telN f l) telN k (f.getD k 0) has) none
theorem accI_succ (f : List Nat) (l k : Nat) (has : List Bool) (i : Nat) : accI f l k has (i + 1) = accT (tellV telN f l) telN k (f.getD k 0) has (accI f l k has i) i := by
  unfold accI
  rw [List.range_succ, List.foldl_append]; rfl

set_option maxRecDepth 8000 in
set_option maxHeartbeats 8000000 in
theorem onI_ok (f : List Nat) (hf4 : f.length ≤ 4) (hf : ∀ x ∈ f, x < 64) : ∀ (l k : Nat) (h0 h1 h2 h3 h4 : Bool) (ks : List (Nat × List Int)) (xs : List T) (clk : Nat), k + l = f.length → MapOK f.length (gI f) ks xs →
    ACall Tryz.prog 101 [.t (.agg [vi k, vb h0, vb h1, vb h2, vb h3, vb h4]), .ptr 0 0, .ptr 1 0, .ptr 2 0, .ptr 3 0] (σ5 101 f sumI ks xs clk) fun o σ' => o = kO (tellV telN f l [h0, h1, h2, h3, h4]) ∧ ∃ ks' xs' clk', MapOK f.length (gI f) ks' xs' ∧ σ' = σ5 101 f sumI ks' xs' clk' := by
  intro l
  have hlt : (tNs f).length = f.length := by unfold tNs; simp
  induction l with
  | zero =>
    intro k h0 h1 h2 h3 h4 ks xs clk hl M
    have hh : ((k : Int) == (f.length : Int)) = true := by rw [beq_iff_eq]; omega
    refine ACall.walk k101 ?_
    unfold c101
    simp only [σ5, sumI, onE, go_sem, Nat.reduceEqDiff, Nat.reduceAdd, Nat.reduceLeDiff, hlt, hh]
    refine finL_ret [0, 1, 2, 3, 4] ⟨rfl, rfl, rfl, rfl, _, rfl, rfl, ks, xs, clk, M, rfl⟩
  | succ l ih =>
    intro k h0 h1 h2 h3 h4 ks xs clk hl M
    have hh : ((k : Int) == (f.length : Int)) = false := by rw [beq_eq_false_iff_ne]; omega
    have hg : gI f k [h0, h1, h2, h3, h4] = .agg (kI (tellV telN f (l + 1) [h0, h1, h2, h3, h4])) := by unfold gI; rw [show f.length - k = l + 1 by omega]
    refine ACall.walk k101 ?_
    unfold c101
    simp only [σ5, sumI, onE, go_sem, Nat.reduceEqDiff, Nat.reduceAdd, Nat.reduceLeDiff, hlt, hh, mapOf?, toKey_at]
    cases hk : kfind (some [some IntKind.i64, none, none, none, none, none], none) ks (keyA k h0 h1 h2 h3 h4) with
    | some i =>
      have hx := M.find hk
      rw [hg] at hx
      cases hv : tellV telN f (l + 1) [h0, h1, h2, h3, h4] with
      | none =>
        rw [hv] at hx
        simp only [kI] at hx
        simp only [hx, go_sem, Nat.reduceEqDiff, Nat.reduceAdd, Nat.reduceLeDiff, undef]
        refine finL_ret [0, 1, 2, 3, 4] ⟨rfl, rfl, rfl, rfl, _, rfl, rfl, ks, xs, clk, M, rfl⟩
      | some n =>
        rw [hv] at hx
        simp only [kI] at hx
        simp only [hx, go_sem, Nat.reduceEqDiff, Nat.reduceAdd, Nat.reduceLeDiff, undef]
        refine finL_ret [0, 1, 2, 3, 4] ⟨rfl, rfl, rfl, rfl, _, rfl, rfl, ks, xs, clk, M, rfl⟩
    | none =>
      have hfk : f[k]? = some (f.getD k 0) := by rw [List.getD_eq_getElem?_getD, List.getElem?_eq_getElem (by omega)]; rfl
      have hft : (tNs f)[k]? = some (vi (f.getD k 0 : Nat)) := by unfold tNs; rw [List.getElem?_map, hfk]; rfl
      have hfb := hf _ (List.mem_of_getElem? hfk)
      have hk0 : ((k : Int) < 0) = False := eq_false (by omega)
      have hkw : IntKind.i64.wrap ((k : Int) + 1) = ((k + 1 : Nat) : Int) := by rw [wrap_id (by omega) (by omega)]; omega
      have hbit := fun i => bit_eq0 (a := f.getD k 0) (i := i) (by omega)
      have hval := fun h v (e : tellV telN f l h = some v) => tellN_le (by omega) (by omega) e
      have hacc := fun i v (e : accI f l k [h0, h1, h2, h3, h4] i = some v) => accN_le hval i v e
      have hsuc := accI_succ f l k [h0, h1, h2, h3, h4]
      have hfin : tellV telN f (l + 1) [h0, h1, h2, h3, h4] = accI f l k [h0, h1, h2, h3, h4] 5 := by
        unfold accI
        rw [tellV, show f.length - (l + 1) = k by omega]
      have hz : accI f l k [h0, h1, h2, h3, h4] 0 = none := rfl
      unfold accT at hsuc
      generalize f.getD k 0 = fit at *
      simp only [zeroT, go_sem, Nat.reduceEqDiff, Nat.reduceAdd, undef]
      refine awpL_loopK 5 (fun i s => ∃ ks xs clk, MapOK f.length (gI f) ks xs ∧ s = { env := [(37, .t (vi i)), (1, .ptr 0 0), (2, .ptr 1 0), (3, .ptr 2 0), (4, .ptr 3 0), (5, .ptr 5 0), (10, .ptr 6 0), (36, .t (.agg [vb h0, vb h1, vb h2, vb h3, vb h4]))], σ := σ5 101 f sumI ks xs clk ++ [.cells [.t (vi k), .t (vb h0), .t (vb h1), .t (vb h2), .t (vb h3), .t (vb h4)], .cells ((kI (accI f l k [h0, h1, h2, h3, h4] i)).map .t)] })
        ⟨_, Sub.gc [0, 1, 2, 3, 4, 5, 7] [37, 1, 2, 3, 4, 5, 10, 36] rfl rfl, ks, xs, clk, M, rfl⟩ ?_
      rintro i s hi ⟨ks', xs', clk', M', rfl⟩
      have hi6 : i = 0 ∨ i = 1 ∨ i = 2 ∨ i = 3 ∨ i = 4 ∨ i = 5 := by omega
      rcases hi6 with rfl | rfl | rfl | rfl | rfl | rfl
      · have hs1 := hsuc 0
        simp only [List.getD_cons_zero, List.set_cons_zero] at hs1
        have hac := hacc 0
        have hbi := hbit 0
        have hnext := ih (k + 1) true h1 h2 h3 h4 ks' xs' clk' (by omega) M'
        have hvl := hval [true, h1, h2, h3, h4]
        rw [hs1]
        generalize tellV telN f l [true, h1, h2, h3, h4] = val at *
        generalize accI f l k [h0, h1, h2, h3, h4] 0 = acc at *
        clear hsuc hacc hbit ih hs1 hfin
        cases h0
        rotate_left
        · simp only [σ5, sumI, onE, go_sem, Nat.reduceEqDiff, Nat.reduceAdd, Nat.reduceMul, Nat.reduceLT, Nat.reduceLeDiff, Int.reduceLT, Int.reduceLE, Bool.not_true, Int.reduceAdd, decide_true, undef, Bool.true_or]
          exact ⟨_, Sub.gc [0, 1, 2, 3, 4, 5, 6] [37, 1, 2, 3, 4, 5, 10, 36] rfl rfl, ks', xs', clk', M', by cases acc <;> rfl⟩
        cases ht : fit.testBit 0
        · rw [ht] at hbi
          simp only [σ5, sumI, onE, go_sem, Nat.reduceEqDiff, Nat.reduceAdd, Nat.reduceMul, Nat.reduceLT, Nat.reduceLeDiff, Int.reduceLT, Int.reduceLE, Bool.not_false, Int.reduceAdd, decide_true, beq_self_eq_true, Bool.or_true, hft, hbi]
          exact ⟨_, Sub.gc [0, 1, 2, 3, 4, 5, 6] [37, 1, 2, 3, 4, 5, 10, 36] rfl rfl, ks', xs', clk', M', by cases acc <;> rfl⟩
        rw [ht] at hbi
        cases val with
        | none =>
          simp only [σ5, sumI, onE, go_sem, Nat.reduceEqDiff, Nat.reduceAdd, Nat.reduceMul, Nat.reduceLeDiff, Int.reduceLT, Int.reduceLE, Bool.not_true, decide_true, undef, beq_self_eq_true, hft, hbi, hkw]
          refine lend5 (sum := sumI) hnext (by decide) rfl rfl rfl rfl rfl fun ks2 xs2 clk2 M2 => ?_
          simp only [go_sem, Nat.reduceEqDiff, Nat.reduceAdd, Nat.reduceLT, Bool.not_true, Bool.not_false, Int.reduceAdd, Bool.or_false]
          exact ⟨_, Sub.gc [0, 1, 2, 3, 4, 5, 6] [37, 1, 2, 3, 4, 5, 10, 36] rfl rfl, ks2, xs2, clk2, M2, by cases acc <;> rfl⟩
        | some r =>
          have hr := hvl r rfl
          have hm := moreI_ok k 0 r
          simp only [σ5, sumI, onE, go_sem, Nat.reduceEqDiff, Nat.reduceAdd, Nat.reduceMul, Nat.reduceLeDiff, Int.reduceLT, Int.reduceLE, Bool.not_true, decide_true, undef, beq_self_eq_true, hft, hbi, hkw]
          refine lend5 (sum := sumI) hnext (by decide) rfl rfl rfl rfl rfl fun ks2 xs2 clk2 M2 => ?_
          cases acc with
          | none =>
            simp only [kI, go_sem, Nat.reduceEqDiff, Nat.reduceAdd, Nat.reduceLeDiff, Bool.not_true]
            refine ACallL.quiet1 hm rfl rfl rfl ?_
            simp only [go_sem, Nat.reduceEqDiff, Nat.reduceAdd, Nat.reduceLT, Nat.reduceLeDiff, Bool.not_true, Int.reduceAdd, undef, Bool.or_false]
            exact ⟨_, Sub.gc [0, 1, 2, 3, 4, 5, 6] [37, 1, 2, 3, 4, 5, 10, 36] rfl rfl, ks2, xs2, clk2, M2, rfl⟩
          | some a =>
            have ha := hac a rfl
            have hj := joinI_ok a r (by omega)
            simp only [kI, go_sem, Nat.reduceEqDiff, Nat.reduceAdd, Nat.reduceLeDiff, Bool.not_true]
            refine ACallL.quiet1 hm rfl rfl rfl ?_
            simp only [go_sem, Nat.reduceEqDiff, Nat.reduceAdd, Nat.reduceLeDiff]
            refine ACallL.quiet1 hj rfl rfl rfl ?_
            simp only [go_sem, Nat.reduceEqDiff, Nat.reduceAdd, Nat.reduceLT, Nat.reduceLeDiff, Bool.not_true, Int.reduceAdd, undef, Bool.or_false]
            exact ⟨_, Sub.gc [0, 1, 2, 3, 4, 5, 6] [37, 1, 2, 3, 4, 5, 10, 36] rfl rfl, ks2, xs2, clk2, M2, rfl⟩
      · have hs1 := hsuc 1
        simp only [List.getD_cons_zero, List.getD_cons_succ, List.set_cons_zero, List.set_cons_succ] at hs1
        have hac := hacc 1
        have hbi := hbit 1
        have hnext := ih (k + 1) h0 true h2 h3 h4 ks' xs' clk' (by omega) M'
        have hvl := hval [h0, true, h2, h3, h4]
        rw [hs1]
        generalize tellV telN f l [h0, true, h2, h3, h4] = val at *
        generalize accI f l k [h0, h1, h2, h3, h4] 1 = acc at *
        clear hsuc hacc hbit ih hs1 hfin
        cases h1
        rotate_left
        · simp only [σ5, sumI, onE, go_sem, Nat.reduceEqDiff, Nat.reduceAdd, Nat.reduceMul, Nat.reduceLT, Nat.reduceLeDiff, Int.reduceToNat, Int.reduceLT, Int.reduceLE, Bool.not_true, Int.reduceAdd, decide_true, undef, Bool.true_or]
          exact ⟨_, Sub.gc [0, 1, 2, 3, 4, 5, 6] [37, 1, 2, 3, 4, 5, 10, 36] rfl rfl, ks', xs', clk', M', by cases acc <;> rfl⟩
        cases ht : fit.testBit 1
        · rw [ht] at hbi
          simp only [σ5, sumI, onE, go_sem, Nat.reduceEqDiff, Nat.reduceAdd, Nat.reduceMul, Nat.reduceLT, Nat.reduceLeDiff, Int.reduceToNat, Int.reduceLT, Int.reduceLE, Bool.not_false, Int.reduceAdd, decide_true, beq_self_eq_true, Bool.or_true, hft, hbi]
          exact ⟨_, Sub.gc [0, 1, 2, 3, 4, 5, 6] [37, 1, 2, 3, 4, 5, 10, 36] rfl rfl, ks', xs', clk', M', by cases acc <;> rfl⟩
        rw [ht] at hbi
        cases val with
        | none =>
          simp only [σ5, sumI, onE, go_sem, Nat.reduceEqDiff, Nat.reduceAdd, Nat.reduceMul, Nat.reduceLeDiff, Int.reduceToNat, Int.reduceLT, Int.reduceLE, Bool.not_true, decide_true, undef, beq_self_eq_true, hft, hbi, hkw]
          refine lend5 (sum := sumI) hnext (by decide) rfl rfl rfl rfl rfl fun ks2 xs2 clk2 M2 => ?_
          simp only [go_sem, Nat.reduceEqDiff, Nat.reduceAdd, Nat.reduceLT, Bool.not_true, Bool.not_false, Int.reduceAdd, Bool.or_false]
          exact ⟨_, Sub.gc [0, 1, 2, 3, 4, 5, 6] [37, 1, 2, 3, 4, 5, 10, 36] rfl rfl, ks2, xs2, clk2, M2, by cases acc <;> rfl⟩
        | some r =>
          have hr := hvl r rfl
          have hm := moreI_ok k 1 r
          simp only [σ5, sumI, onE, go_sem, Nat.reduceEqDiff, Nat.reduceAdd, Nat.reduceMul, Nat.reduceLeDiff, Int.reduceToNat, Int.reduceLT, Int.reduceLE, Bool.not_true, decide_true, undef, beq_self_eq_true, hft, hbi, hkw]
          refine lend5 (sum := sumI) hnext (by decide) rfl rfl rfl rfl rfl fun ks2 xs2 clk2 M2 => ?_
          cases acc with
          | none =>
            simp only [kI, go_sem, Nat.reduceEqDiff, Nat.reduceAdd, Nat.reduceLeDiff, Bool.not_true]
            refine ACallL.quiet1 hm rfl rfl rfl ?_
            simp only [go_sem, Nat.reduceEqDiff, Nat.reduceAdd, Nat.reduceLT, Nat.reduceLeDiff, Bool.not_true, Int.reduceAdd, undef, Bool.or_false]
            exact ⟨_, Sub.gc [0, 1, 2, 3, 4, 5, 6] [37, 1, 2, 3, 4, 5, 10, 36] rfl rfl, ks2, xs2, clk2, M2, rfl⟩
          | some a =>
            have ha := hac a rfl
            have hj := joinI_ok a r (by omega)
            simp only [kI, go_sem, Nat.reduceEqDiff, Nat.reduceAdd, Nat.reduceLeDiff, Bool.not_true]
            refine ACallL.quiet1 hm rfl rfl rfl ?_
            simp only [go_sem, Nat.reduceEqDiff, Nat.reduceAdd, Nat.reduceLeDiff]
            refine ACallL.quiet1 hj rfl rfl rfl ?_
            simp only [go_sem, Nat.reduceEqDiff, Nat.reduceAdd, Nat.reduceLT, Nat.reduceLeDiff, Bool.not_true, Int.reduceAdd, undef, Bool.or_false]
            exact ⟨_, Sub.gc [0, 1, 2, 3, 4, 5, 6] [37, 1, 2, 3, 4, 5, 10, 36] rfl rfl, ks2, xs2, clk2, M2, rfl⟩
      · have hs1 := hsuc 2
        simp only [List.getD_cons_zero, List.getD_cons_succ, List.set_cons_zero, List.set_cons_succ] at hs1
        have hac := hacc 2
        have hbi := hbit 2
        have hnext := ih (k + 1) h0 h1 true h3 h4 ks' xs' clk' (by omega) M'
        have hvl := hval [h0, h1, true, h3, h4]
        rw [hs1]
        generalize tellV telN f l [h0, h1, true, h3, h4] = val at *
        generalize accI f l k [h0, h1, h2, h3, h4] 2 = acc at *
        clear hsuc hacc hbit ih hs1 hfin
        cases h2
        rotate_left
        · simp only [σ5, sumI, onE, go_sem, Nat.reduceEqDiff, Nat.reduceAdd, Nat.reduceMul, Nat.reduceLT, Nat.reduceLeDiff, Int.reduceToNat, Int.reduceLT, Int.reduceLE, Bool.not_true, Int.reduceAdd, decide_true, undef, Bool.true_or]
          exact ⟨_, Sub.gc [0, 1, 2, 3, 4, 5, 6] [37, 1, 2, 3, 4, 5, 10, 36] rfl rfl, ks', xs', clk', M', by cases acc <;> rfl⟩
        cases ht : fit.testBit 2
        · rw [ht] at hbi
          simp only [σ5, sumI, onE, go_sem, Nat.reduceEqDiff, Nat.reduceAdd, Nat.reduceMul, Nat.reduceLT, Nat.reduceLeDiff, Int.reduceToNat, Int.reduceLT, Int.reduceLE, Bool.not_false, Int.reduceAdd, decide_true, beq_self_eq_true, Bool.or_true, hft, hbi]
          exact ⟨_, Sub.gc [0, 1, 2, 3, 4, 5, 6] [37, 1, 2, 3, 4, 5, 10, 36] rfl rfl, ks', xs', clk', M', by cases acc <;> rfl⟩
        rw [ht] at hbi
        cases val with
        | none =>
          simp only [σ5, sumI, onE, go_sem, Nat.reduceEqDiff, Nat.reduceAdd, Nat.reduceMul, Nat.reduceLeDiff, Int.reduceToNat, Int.reduceLT, Int.reduceLE, Bool.not_true, decide_true, undef, beq_self_eq_true, hft, hbi, hkw]
          refine lend5 (sum := sumI) hnext (by decide) rfl rfl rfl rfl rfl fun ks2 xs2 clk2 M2 => ?_
          simp only [go_sem, Nat.reduceEqDiff, Nat.reduceAdd, Nat.reduceLT, Bool.not_true, Bool.not_false, Int.reduceAdd, Bool.or_false]
          exact ⟨_, Sub.gc [0, 1, 2, 3, 4, 5, 6] [37, 1, 2, 3, 4, 5, 10, 36] rfl rfl, ks2, xs2, clk2, M2, by cases acc <;> rfl⟩
        | some r =>
          have hr := hvl r rfl
          have hm := moreI_ok k 2 r
          simp only [σ5, sumI, onE, go_sem, Nat.reduceEqDiff, Nat.reduceAdd, Nat.reduceMul, Nat.reduceLeDiff, Int.reduceToNat, Int.reduceLT, Int.reduceLE, Bool.not_true, decide_true, undef, beq_self_eq_true, hft, hbi, hkw]
          refine lend5 (sum := sumI) hnext (by decide) rfl rfl rfl rfl rfl fun ks2 xs2 clk2 M2 => ?_
          cases acc with
          | none =>
            simp only [kI, go_sem, Nat.reduceEqDiff, Nat.reduceAdd, Nat.reduceLeDiff, Bool.not_true]
            refine ACallL.quiet1 hm rfl rfl rfl ?_
            simp only [go_sem, Nat.reduceEqDiff, Nat.reduceAdd, Nat.reduceLT, Nat.reduceLeDiff, Bool.not_true, Int.reduceAdd, undef, Bool.or_false]
            exact ⟨_, Sub.gc [0, 1, 2, 3, 4, 5, 6] [37, 1, 2, 3, 4, 5, 10, 36] rfl rfl, ks2, xs2, clk2, M2, rfl⟩
          | some a =>
            have ha := hac a rfl
            have hj := joinI_ok a r (by omega)
            simp only [kI, go_sem, Nat.reduceEqDiff, Nat.reduceAdd, Nat.reduceLeDiff, Bool.not_true]
            refine ACallL.quiet1 hm rfl rfl rfl ?_
            simp only [go_sem, Nat.reduceEqDiff, Nat.reduceAdd, Nat.reduceLeDiff]
            refine ACallL.quiet1 hj rfl rfl rfl ?_
            simp only [go_sem, Nat.reduceEqDiff, Nat.reduceAdd, Nat.reduceLT, Nat.reduceLeDiff, Bool.not_true, Int.reduceAdd, undef, Bool.or_false]
            exact ⟨_, Sub.gc [0, 1, 2, 3, 4, 5, 6] [37, 1, 2, 3, 4, 5, 10, 36] rfl rfl, ks2, xs2, clk2, M2, rfl⟩
      · have hs1 := hsuc 3
        simp only [List.getD_cons_zero, List.getD_cons_succ, List.set_cons_zero, List.set_cons_succ] at hs1
        have hac := hacc 3
        have hbi := hbit 3
        have hnext := ih (k + 1) h0 h1 h2 true h4 ks' xs' clk' (by omega) M'
        have hvl := hval [h0, h1, h2, true, h4]
        rw [hs1]
        generalize tellV telN f l [h0, h1, h2, true, h4] = val at *
        generalize accI f l k [h0, h1, h2, h3, h4] 3 = acc at *
        clear hsuc hacc hbit ih hs1 hfin
        cases h3
        rotate_left
        · simp only [σ5, sumI, onE, go_sem, Nat.reduceEqDiff, Nat.reduceAdd, Nat.reduceMul, Nat.reduceLT, Nat.reduceLeDiff, Int.reduceToNat, Int.reduceLT, Int.reduceLE, Bool.not_true, Int.reduceAdd, decide_true, undef, Bool.true_or]
          exact ⟨_, Sub.gc [0, 1, 2, 3, 4, 5, 6] [37, 1, 2, 3, 4, 5, 10, 36] rfl rfl, ks', xs', clk', M', by cases acc <;> rfl⟩
        cases ht : fit.testBit 3
        · rw [ht] at hbi
          simp only [σ5, sumI, onE, go_sem, Nat.reduceEqDiff, Nat.reduceAdd, Nat.reduceMul, Nat.reduceLT, Nat.reduceLeDiff, Int.reduceToNat, Int.reduceLT, Int.reduceLE, Bool.not_false, Int.reduceAdd, decide_true, beq_self_eq_true, Bool.or_true, hft, hbi]
          exact ⟨_, Sub.gc [0, 1, 2, 3, 4, 5, 6] [37, 1, 2, 3, 4, 5, 10, 36] rfl rfl, ks', xs', clk', M', by cases acc <;> rfl⟩
        rw [ht] at hbi
        cases val with
        | none =>
          simp only [σ5, sumI, onE, go_sem, Nat.reduceEqDiff, Nat.reduceAdd, Nat.reduceMul, Nat.reduceLeDiff, Int.reduceToNat, Int.reduceLT, Int.reduceLE, Bool.not_true, decide_true, undef, beq_self_eq_true, hft, hbi, hkw]
          refine lend5 (sum := sumI) hnext (by decide) rfl rfl rfl rfl rfl fun ks2 xs2 clk2 M2 => ?_
          simp only [go_sem, Nat.reduceEqDiff, Nat.reduceAdd, Nat.reduceLT, Bool.not_true, Bool.not_false, Int.reduceAdd, Bool.or_false]
          exact ⟨_, Sub.gc [0, 1, 2, 3, 4, 5, 6] [37, 1, 2, 3, 4, 5, 10, 36] rfl rfl, ks2, xs2, clk2, M2, by cases acc <;> rfl⟩
        | some r =>
          have hr := hvl r rfl
          have hm := moreI_ok k 3 r
          simp only [σ5, sumI, onE, go_sem, Nat.reduceEqDiff, Nat.reduceAdd, Nat.reduceMul, Nat.reduceLeDiff, Int.reduceToNat, Int.reduceLT, Int.reduceLE, Bool.not_true, decide_true, undef, beq_self_eq_true, hft, hbi, hkw]
          refine lend5 (sum := sumI) hnext (by decide) rfl rfl rfl rfl rfl fun ks2 xs2 clk2 M2 => ?_
          cases acc with
          | none =>
            simp only [kI, go_sem, Nat.reduceEqDiff, Nat.reduceAdd, Nat.reduceLeDiff, Bool.not_true]
            refine ACallL.quiet1 hm rfl rfl rfl ?_
            simp only [go_sem, Nat.reduceEqDiff, Nat.reduceAdd, Nat.reduceLT, Nat.reduceLeDiff, Bool.not_true, Int.reduceAdd, undef, Bool.or_false]
            exact ⟨_, Sub.gc [0, 1, 2, 3, 4, 5, 6] [37, 1, 2, 3, 4, 5, 10, 36] rfl rfl, ks2, xs2, clk2, M2, rfl⟩
          | some a =>
            have ha := hac a rfl
            have hj := joinI_ok a r (by omega)
            simp only [kI, go_sem, Nat.reduceEqDiff, Nat.reduceAdd, Nat.reduceLeDiff, Bool.not_true]
            refine ACallL.quiet1 hm rfl rfl rfl ?_
            simp only [go_sem, Nat.reduceEqDiff, Nat.reduceAdd, Nat.reduceLeDiff]
            refine ACallL.quiet1 hj rfl rfl rfl ?_
            simp only [go_sem, Nat.reduceEqDiff, Nat.reduceAdd, Nat.reduceLT, Nat.reduceLeDiff, Bool.not_true, Int.reduceAdd, undef, Bool.or_false]
            exact ⟨_, Sub.gc [0, 1, 2, 3, 4, 5, 6] [37, 1, 2, 3, 4, 5, 10, 36] rfl rfl, ks2, xs2, clk2, M2, rfl⟩
      · have hs1 := hsuc 4
        simp only [List.getD_cons_zero, List.getD_cons_succ, List.set_cons_zero, List.set_cons_succ] at hs1
        have hac := hacc 4
        have hbi := hbit 4
        have hnext := ih (k + 1) h0 h1 h2 h3 true ks' xs' clk' (by omega) M'
        have hvl := hval [h0, h1, h2, h3, true]
        rw [hs1]
        generalize tellV telN f l [h0, h1, h2, h3, true] = val at *
        generalize accI f l k [h0, h1, h2, h3, h4] 4 = acc at *
        clear hsuc hacc hbit ih hs1 hfin
        cases h4
        rotate_left
        · simp only [σ5, sumI, onE, go_sem, Nat.reduceEqDiff, Nat.reduceAdd, Nat.reduceMul, Nat.reduceLT, Int.reduceToNat, Int.reduceLT, Int.reduceLE, Bool.not_true, Int.reduceAdd, decide_true, undef, Bool.true_or]
          exact ⟨_, Sub.gc [0, 1, 2, 3, 4, 5, 6] [37, 1, 2, 3, 4, 5, 10, 36] rfl rfl, ks', xs', clk', M', by cases acc <;> rfl⟩
        cases ht : fit.testBit 4
        · rw [ht] at hbi
          simp only [σ5, sumI, onE, go_sem, Nat.reduceEqDiff, Nat.reduceAdd, Nat.reduceMul, Nat.reduceLT, Nat.reduceLeDiff, Int.reduceToNat, Int.reduceLT, Int.reduceLE, Bool.not_false, Int.reduceAdd, decide_true, beq_self_eq_true, Bool.or_true, hft, hbi]
          exact ⟨_, Sub.gc [0, 1, 2, 3, 4, 5, 6] [37, 1, 2, 3, 4, 5, 10, 36] rfl rfl, ks', xs', clk', M', by cases acc <;> rfl⟩
        rw [ht] at hbi
        cases val with
        | none =>
          simp only [σ5, sumI, onE, go_sem, Nat.reduceEqDiff, Nat.reduceAdd, Nat.reduceMul, Nat.reduceLeDiff, Int.reduceToNat, Int.reduceLT, Int.reduceLE, Bool.not_true, decide_true, undef, beq_self_eq_true, hft, hbi, hkw]
          refine lend5 (sum := sumI) hnext (by decide) rfl rfl rfl rfl rfl fun ks2 xs2 clk2 M2 => ?_
          simp only [go_sem, Nat.reduceEqDiff, Nat.reduceAdd, Nat.reduceLT, Bool.not_true, Bool.not_false, Int.reduceAdd, Bool.or_false]
          exact ⟨_, Sub.gc [0, 1, 2, 3, 4, 5, 6] [37, 1, 2, 3, 4, 5, 10, 36] rfl rfl, ks2, xs2, clk2, M2, by cases acc <;> rfl⟩
        | some r =>
          have hr := hvl r rfl
          have hm := moreI_ok k 4 r
          simp only [σ5, sumI, onE, go_sem, Nat.reduceEqDiff, Nat.reduceAdd, Nat.reduceMul, Nat.reduceLeDiff, Int.reduceToNat, Int.reduceLT, Int.reduceLE, Bool.not_true, decide_true, undef, beq_self_eq_true, hft, hbi, hkw]
          refine lend5 (sum := sumI) hnext (by decide) rfl rfl rfl rfl rfl fun ks2 xs2 clk2 M2 => ?_
          cases acc with
          | none =>
            simp only [kI, go_sem, Nat.reduceEqDiff, Nat.reduceAdd, Nat.reduceLeDiff, Bool.not_true]
            refine ACallL.quiet1 hm rfl rfl rfl ?_
            simp only [go_sem, Nat.reduceEqDiff, Nat.reduceAdd, Nat.reduceLT, Nat.reduceLeDiff, Bool.not_true, Int.reduceAdd, undef, Bool.or_false]
            exact ⟨_, Sub.gc [0, 1, 2, 3, 4, 5, 6] [37, 1, 2, 3, 4, 5, 10, 36] rfl rfl, ks2, xs2, clk2, M2, rfl⟩
          | some a =>
            have ha := hac a rfl
            have hj := joinI_ok a r (by omega)
            simp only [kI, go_sem, Nat.reduceEqDiff, Nat.reduceAdd, Nat.reduceLeDiff, Bool.not_true]
            refine ACallL.quiet1 hm rfl rfl rfl ?_
            simp only [go_sem, Nat.reduceEqDiff, Nat.reduceAdd, Nat.reduceLeDiff]
            refine ACallL.quiet1 hj rfl rfl rfl ?_
            simp only [go_sem, Nat.reduceEqDiff, Nat.reduceAdd, Nat.reduceLT, Nat.reduceLeDiff, Bool.not_true, Int.reduceAdd, undef, Bool.or_false]
            exact ⟨_, Sub.gc [0, 1, 2, 3, 4, 5, 6] [37, 1, 2, 3, 4, 5, 10, 36] rfl rfl, ks2, xs2, clk2, M2, rfl⟩
      · rw [hfin] at hg
        clear hsuc hacc hbit ih
        generalize accI f l k [h0, h1, h2, h3, h4] 5 = v at *
        cases v with
        | none =>
          simp only [kI, σ5, sumI, onE, go_sem, Nat.reduceEqDiff, Nat.reduceAdd, Int.reduceLT, decide_false, undef, toKey_at]
          cases hk2 : kfind (some [some IntKind.i64, none, none, none, none, none], none) ks' (keyA k h0 h1 h2 h3 h4) with
          | some i =>
            simp only [go_sem, Nat.reduceEqDiff, Nat.reduceAdd, Nat.reduceLeDiff]
            have M2 := M'.put hk2
            rw [hg] at M2
            exact finL_ret [0, 1, 2, 3, 4] ⟨rfl, rfl, rfl, rfl, _, rfl, (by rw [hfin]; rfl), _, _, _, M2, rfl⟩
          | none =>
            simp only [go_sem, Nat.reduceEqDiff, Nat.reduceAdd, Nat.reduceLeDiff]
            have M2 := M'.new (k := k) (h0 := h0) (h1 := h1) (h2 := h2) (h3 := h3) (h4 := h4) (clk := clk') (by omega)
            rw [hg] at M2
            exact finL_ret [0, 1, 2, 3, 4] ⟨rfl, rfl, rfl, rfl, _, rfl, (by rw [hfin]; rfl), _, _, _, M2, rfl⟩
        | some n =>
          simp only [kI, σ5, sumI, onE, go_sem, Nat.reduceEqDiff, Nat.reduceAdd, Int.reduceLT, decide_false, undef, toKey_at]
          cases hk2 : kfind (some [some IntKind.i64, none, none, none, none, none], none) ks' (keyA k h0 h1 h2 h3 h4) with
          | some i =>
            simp only [go_sem, Nat.reduceEqDiff, Nat.reduceAdd, Nat.reduceLeDiff]
            have M2 := M'.put hk2
            rw [hg] at M2
            exact finL_ret [0, 1, 2, 3, 4] ⟨rfl, rfl, rfl, rfl, _, rfl, (by rw [hfin]; rfl), _, _, _, M2, rfl⟩
          | none =>
            simp only [go_sem, Nat.reduceEqDiff, Nat.reduceAdd, Nat.reduceLeDiff]
            have M2 := M'.new (k := k) (h0 := h0) (h1 := h1) (h2 := h2) (h3 := h3) (h4 := h4) (clk := clk') (by omega)
            rw [hg] at M2
            exact finL_ret [0, 1, 2, 3, 4] ⟨rfl, rfl, rfl, rfl, _, rfl, (by rw [hfin]; rfl), _, _, _, M2, rfl⟩
end Go.Proofs.YtnmmhkkmejbckaaGreatDoor

/- Whose each find can be: the closure that calls itself. -/
namespace Go.Proofs.YtnmmhkkmejbckaaGreatDoor
open Go Go.Ab

def w4 : List Nat → List T
  | [a, b, c, d] => [vi a, vi b, vi c, vi d]
  | _ => [vi 0, vi 0, vi 0, vi 0]
theorem len4 {α : Type} {r : List α} (h : r.length = 4) : ∃ a b c d, r = [a, b, c, d] := by
  match r, h with
  | [a, b, c, d], _ => exact ⟨a, b, c, d, rfl⟩
/-- Small sets, four of them. -/
def W4 (r : List Nat) : Prop := r.length = 4 ∧ ∀ x ∈ r, x < 64
def kW : Option (List Nat) → List T
  | none => [vi 0, vi 0, vi 0, vi 0, vb false]
  | some r => w4 r ++ [vb true]
def kWO : Option (List Nat) → Out
  | none => .ret (.tup [.t (.agg [vi 0, vi 0, vi 0, vi 0]), .t (vb false)])
  | some r => .ret (.tup [.t (.agg (w4 r)), .t (vb true)])
def gW (f : List Nat) (k : Nat) (has : List Bool) : T := .agg (kW (tellV telW f (f.length - k) has))
def sumW : List T := [vi 0, vi 0, vi 0, vi 0, .fn (.func 83) [] [], .fn (.func 84) [] []]
theorem W4.set {r : List Nat} (h : W4 r) (k : Nat) {x : Nat} (hx : x < 64) : W4 (r.set k x) := ⟨by rw [List.length_set]; exact h.1, fun y hy => by
  rcases List.mem_or_eq_of_mem_set hy with h' | h'
  · exact h.2 y h'
  · rw [h']; exact hx⟩
theorem W4.zip {a b : List Nat} (ha : W4 a) (hb : W4 b) : W4 (a.zipWith (· ||| ·) b) := by
  obtain ⟨a0, a1, a2, a3, rfl⟩ := len4 ha.1
  obtain ⟨b0, b1, b2, b3, rfl⟩ := len4 hb.1
  refine ⟨rfl, fun x hx => ?_⟩
  have ha := ha.2
  have hb := hb.2
  simp only [List.mem_cons, List.not_mem_nil, or_false, forall_eq_or_imp, forall_eq] at ha hb
  simp only [List.zipWith_cons_cons, List.zipWith_nil_left, List.mem_cons, List.not_mem_nil, or_false] at hx
  rcases hx with rfl | rfl | rfl | rfl <;> exact Nat.or_lt_two_pow (n := 6) (by omega) (by omega)
theorem accW_ok {val : List Bool → Option (List Nat)} {k fit : Nat} {has : List Bool} (hv : ∀ h v, val h = some v → W4 v) : ∀ (i : Nat), i ≤ 5 → ∀ (v : List Nat), (List.range i).foldl (accT val telW k fit has) none = some v → W4 v
  | 0, _, v, h => by cases h
  | i + 1, hi, v, h => by
    rw [List.range_succ, List.foldl_append] at h
    simp only [List.foldl_cons, List.foldl_nil] at h
    have ih := accW_ok (k := k) (fit := fit) (has := has) hv i (by omega)
    generalize (List.range i).foldl (accT val telW k fit has) none = acc at *
    have h2 : 2 ^ i < 64 := by
      have : 2 ^ i ≤ 2 ^ 4 := Nat.pow_le_pow_right (by omega) (by omega)
      omega
    unfold accT at h
    split at h
    · exact ih v h
    · cases hr : val (has.set i true) with
      | none => rw [hr] at h; exact ih v h
      | some r =>
        rw [hr] at h
        have hr2 := (hv _ _ hr).set k h2
        cases acc with
        | none =>
          simp only [telW, Option.some.injEq] at h
          rw [← h]; exact hr2
        | some a =>
          have := ih a rfl
          simp only [telW, Option.some.injEq] at h
          rw [← h]; exact this.zip hr2
theorem tellW_ok (f : List Nat) : ∀ (l : Nat) (has : List Bool) (v : List Nat), tellV telW f l has = some v → W4 v
  | 0, _, v, h => by
    simp only [tellV, telW, Option.some.injEq] at h
    subst h
    exact ⟨rfl, fun x hx => by simp at hx; omega⟩
  | l + 1, has, v, h => by
    unfold tellV at h
    exact accW_ok (fun h v e => tellW_ok f l h v e) 5 (Nat.le_refl _) v h

set_option maxRecDepth 8000 in
theorem moreW_ok (k i r0 r1 r2 r3 : Nat) (hk : k < 4) (hi : i < 5) : ACall Tryz.prog 83 [.t (vi k), .t (vi i), .t (.agg [vi r0, vi r1, vi r2, vi r3])] [] (ret (.agg (w4 ([r0, r1, r2, r3].set k (2 ^ i))))) := by
  have hshl : IntKind.i64.wrap (1 * 2 ^ (min i 64)) = ((2 ^ i : Nat) : Int) := shl_one (by omega)
  have hi0 : ((i : Int) < 0) = False := eq_false (by omega)
  refine ACall.walk k83 ?_
  unfold c83
  generalize 2 ^ i = p at *
  have h4 : k = 0 ∨ k = 1 ∨ k = 2 ∨ k = 3 := by omega
  rcases h4 with rfl | rfl | rfl | rfl
  all_goals
    simp only [go_sem, Nat.reduceEqDiff, Nat.reduceAdd, Nat.reduceMul, Nat.reduceLeDiff, Int.reduceToNat, Int.reduceLT, Int.reduceLE, undef, hshl, hi0]
    exact finL_ret [] ⟨rfl, rfl, rfl, rfl, _, rfl, ret_mk rfl⟩
set_option maxRecDepth 8000 in
set_option maxHeartbeats 2000000 in
theorem joinW_ok (a0 a1 a2 a3 b0 b1 b2 b3 : Nat) (h : a0 < 64 ∧ a1 < 64 ∧ a2 < 64 ∧ a3 < 64 ∧ b0 < 64 ∧ b1 < 64 ∧ b2 < 64 ∧ b3 < 64) : ACall Tryz.prog 84 [.t (.agg [vi a0, vi a1, vi a2, vi a3]), .t (.agg [vi b0, vi b1, vi b2, vi b3])] [] (ret (.agg [vi (a0 ||| b0 : Nat), vi (a1 ||| b1 : Nat), vi (a2 ||| b2 : Nat), vi (a3 ||| b3 : Nat)])) := by
  have u0 := union_ok a0 b0 (by omega) (by omega)
  have u1 := union_ok a1 b1 (by omega) (by omega)
  have u2 := union_ok a2 b2 (by omega) (by omega)
  have u3 := union_ok a3 b3 (by omega) (by omega)
  refine ACall.walk k84 ?_
  unfold c84
  generalize a0 ||| b0 = c0 at *
  generalize a1 ||| b1 = c1 at *
  generalize a2 ||| b2 = c2 at *
  generalize a3 ||| b3 = c3 at *
  simp only [go_sem, Nat.reduceEqDiff, Nat.reduceAdd]
  refine awpL_loopK 4 (fun j s => s = { env := [(6, .t (vi j)), (2, .ptr 0 0), (3, .t (.ptr (.agg [vi b0, vi b1, vi b2, vi b3]) 0)), (4, .ptr 1 0)], σ := [.cells [.t (vi (if 0 < j then c0 else a0 : Nat)), .t (vi (if 1 < j then c1 else a1 : Nat)), .t (vi (if 2 < j then c2 else a2 : Nat)), .t (vi (if 3 < j then c3 else a3 : Nat))], .cells [.t (vi 0), .t (vi 0), .t (vi 0), .t (vi 0)]] })
    ⟨_, Sub.gc [0, 2] [6, 2, 3, 4] rfl rfl, St.gc_mk rfl rfl rfl rfl⟩ ?_
  rintro j s hj rfl
  have h5 : j = 0 ∨ j = 1 ∨ j = 2 ∨ j = 3 ∨ j = 4 := by omega
  rcases h5 with rfl | rfl | rfl | rfl | rfl
  · simp only [go_sem, Nat.reduceEqDiff, Nat.reduceAdd, Nat.reduceMul, Nat.reduceLT, Nat.reduceLeDiff, Int.reduceLT, Int.reduceLE, decide_true]
    refine ACallL.quiet1 u0 rfl rfl rfl ?_
    simp only [go_sem, Nat.reduceEqDiff, Nat.reduceAdd, Nat.reduceMul, Nat.reduceLT, Nat.reduceLeDiff, Int.reduceLT, Int.reduceLE, Int.reduceAdd, undef]
    exact ⟨_, Sub.gc [0, 1] [6, 2, 3, 4] rfl rfl, St.gc_mk rfl rfl rfl rfl⟩
  · simp only [go_sem, Nat.reduceEqDiff, Nat.reduceAdd, Nat.reduceMul, Nat.reduceLT, Nat.reduceLeDiff, Int.reduceToNat, Int.reduceLT, Int.reduceLE, decide_true]
    refine ACallL.quiet1 u1 rfl rfl rfl ?_
    simp only [go_sem, Nat.reduceEqDiff, Nat.reduceAdd, Nat.reduceMul, Nat.reduceLT, Nat.reduceLeDiff, Int.reduceToNat, Int.reduceLT, Int.reduceLE, Int.reduceAdd, undef]
    exact ⟨_, Sub.gc [0, 1] [6, 2, 3, 4] rfl rfl, St.gc_mk rfl rfl rfl rfl⟩
  · simp only [go_sem, Nat.reduceEqDiff, Nat.reduceAdd, Nat.reduceMul, Nat.reduceLT, Nat.reduceLeDiff, Int.reduceToNat, Int.reduceLT, Int.reduceLE, decide_true]
    refine ACallL.quiet1 u2 rfl rfl rfl ?_
    simp only [go_sem, Nat.reduceEqDiff, Nat.reduceAdd, Nat.reduceMul, Nat.reduceLT, Nat.reduceLeDiff, Int.reduceToNat, Int.reduceLT, Int.reduceLE, Int.reduceAdd, undef]
    exact ⟨_, Sub.gc [0, 1] [6, 2, 3, 4] rfl rfl, St.gc_mk rfl rfl rfl rfl⟩
  · simp only [go_sem, Nat.reduceEqDiff, Nat.reduceAdd, Nat.reduceMul, Nat.reduceLT, Int.reduceToNat, Int.reduceLT, Int.reduceLE, decide_true]
    refine ACallL.quiet1 u3 rfl rfl rfl ?_
    simp only [go_sem, Nat.reduceEqDiff, Nat.reduceAdd, Nat.reduceMul, Nat.reduceLT, Int.reduceToNat, Int.reduceLT, Int.reduceLE, Int.reduceAdd, undef]
    exact ⟨_, Sub.gc [0, 1] [6, 2, 3, 4] rfl rfl, St.gc_mk rfl rfl rfl rfl⟩
  · simp only [go_sem, Nat.reduceEqDiff, Nat.reduceAdd, Nat.reduceLT, Int.reduceLT, decide_false, undef]
    exact finL_ret [] ⟨rfl, rfl, rfl, rfl, _, rfl, ret_mk rfl⟩

abbrev accW (f : List Nat) (l k : Nat) (has : List Bool) (i : Nat) : Option (List Nat) := (List.range i).foldl (accT (tellV telW f l) telW k (f.getD k 0) has) none
theorem accW_succ (f : List Nat) (l k : Nat) (has : List Bool) (i : Nat) : accW f l k has (i + 1) = accT (tellV telW f l) telW k (f.getD k 0) has (accW f l k has i) i := by
  unfold accW
  rw [List.range_succ, List.foldl_append]; rfl

set_option maxRecDepth 8000 in
set_option maxHeartbeats 8000000 in
theorem onW_ok (f : List Nat) (hf4 : f.length ≤ 4) (hf : ∀ x ∈ f, x < 64) : ∀ (l k : Nat) (h0 h1 h2 h3 h4 : Bool) (ks : List (Nat × List Int)) (xs : List T) (clk : Nat), k + l = f.length → MapOK f.length (gW f) ks xs →
    ACall Tryz.prog 102 [.t (.agg [vi k, vb h0, vb h1, vb h2, vb h3, vb h4]), .ptr 0 0, .ptr 1 0, .ptr 2 0, .ptr 3 0] (σ5 102 f sumW ks xs clk) fun o σ' => o = kWO (tellV telW f l [h0, h1, h2, h3, h4]) ∧ ∃ ks' xs' clk', MapOK f.length (gW f) ks' xs' ∧ σ' = σ5 102 f sumW ks' xs' clk' := by
  intro l
  have hlt : (tNs f).length = f.length := by unfold tNs; simp
  induction l with
  | zero =>
    intro k h0 h1 h2 h3 h4 ks xs clk hl M
    have hh : ((k : Int) == (f.length : Int)) = true := by rw [beq_iff_eq]; omega
    refine ACall.walk k102 ?_
    unfold c102
    simp only [σ5, sumW, onE, go_sem, Nat.reduceEqDiff, Nat.reduceAdd, Nat.reduceLeDiff, undef, hlt, hh]
    refine finL_ret [0, 1, 2, 3, 4] ⟨rfl, rfl, rfl, rfl, _, rfl, rfl, ks, xs, clk, M, rfl⟩
  | succ l ih =>
    intro k h0 h1 h2 h3 h4 ks xs clk hl M
    have hh : ((k : Int) == (f.length : Int)) = false := by rw [beq_eq_false_iff_ne]; omega
    have hg : gW f k [h0, h1, h2, h3, h4] = .agg (kW (tellV telW f (l + 1) [h0, h1, h2, h3, h4])) := by unfold gW; rw [show f.length - k = l + 1 by omega]
    refine ACall.walk k102 ?_
    unfold c102
    simp only [σ5, sumW, onE, go_sem, Nat.reduceEqDiff, Nat.reduceAdd, Nat.reduceLeDiff, hlt, hh, mapOf?, toKey_at]
    cases hk : kfind (some [some IntKind.i64, none, none, none, none, none], none) ks (keyA k h0 h1 h2 h3 h4) with
    | some i =>
      have hx := M.find hk
      rw [hg] at hx
      cases hv : tellV telW f (l + 1) [h0, h1, h2, h3, h4] with
      | none =>
        rw [hv] at hx
        simp only [kW] at hx
        simp only [hx, go_sem, Nat.reduceEqDiff, Nat.reduceAdd, Nat.reduceLeDiff, undef]
        refine finL_ret [0, 1, 2, 3, 4] ⟨rfl, rfl, rfl, rfl, _, rfl, rfl, ks, xs, clk, M, rfl⟩
      | some n =>
        obtain ⟨n0, n1, n2, n3, rfl⟩ := len4 (tellW_ok f _ _ _ hv).1
        rw [hv] at hx
        simp only [kW, w4, List.cons_append, List.nil_append] at hx
        simp only [hx, go_sem, Nat.reduceEqDiff, Nat.reduceAdd, Nat.reduceLeDiff, undef]
        refine finL_ret [0, 1, 2, 3, 4] ⟨rfl, rfl, rfl, rfl, _, rfl, rfl, ks, xs, clk, M, rfl⟩
    | none =>
      have hfk : f[k]? = some (f.getD k 0) := by rw [List.getD_eq_getElem?_getD, List.getElem?_eq_getElem (by omega)]; rfl
      have hft : (tNs f)[k]? = some (vi (f.getD k 0 : Nat)) := by unfold tNs; rw [List.getElem?_map, hfk]; rfl
      have hfb := hf _ (List.mem_of_getElem? hfk)
      have hk0 : ((k : Int) < 0) = False := eq_false (by omega)
      have hk4 : k < 4 := by omega
      have hkw : IntKind.i64.wrap ((k : Int) + 1) = ((k + 1 : Nat) : Int) := by rw [wrap_id (by omega) (by omega)]; omega
      have hbit := fun i => bit_eq0 (a := f.getD k 0) (i := i) (by omega)
      have hval := fun h v (e : tellV telW f l h = some v) => tellW_ok f l h v e
      have hacc := fun i hi v (e : accW f l k [h0, h1, h2, h3, h4] i = some v) => accW_ok hval i hi v e
      have hsuc := accW_succ f l k [h0, h1, h2, h3, h4]
      have hfin : tellV telW f (l + 1) [h0, h1, h2, h3, h4] = accW f l k [h0, h1, h2, h3, h4] 5 := by
        unfold accW
        rw [tellV, show f.length - (l + 1) = k by omega]
      unfold accT at hsuc
      generalize f.getD k 0 = fit at *
      simp only [zeroT, go_sem, Nat.reduceEqDiff, Nat.reduceAdd, undef]
      refine awpL_loopK 5 (fun i s => ∃ ks xs clk, MapOK f.length (gW f) ks xs ∧ s = { env := [(37, .t (vi i)), (1, .ptr 0 0), (2, .ptr 1 0), (3, .ptr 2 0), (4, .ptr 3 0), (5, .ptr 5 0), (6, .ptr 6 0), (10, .ptr 7 0), (36, .t (.agg [vb h0, vb h1, vb h2, vb h3, vb h4]))], σ := σ5 102 f sumW ks xs clk ++ [.cells [.t (vi k), .t (vb h0), .t (vb h1), .t (vb h2), .t (vb h3), .t (vb h4)], .cells [.t (vi 0), .t (vi 0), .t (vi 0), .t (vi 0)], .cells ((kW (accW f l k [h0, h1, h2, h3, h4] i)).map .t)] })
        ⟨_, Sub.gc [0, 1, 2, 3, 4, 5, 6, 8] [37, 1, 2, 3, 4, 5, 6, 10, 36] rfl rfl, ks, xs, clk, M, rfl⟩ ?_
      rintro i s hi ⟨ks', xs', clk', M', rfl⟩
      have hi6 : i = 0 ∨ i = 1 ∨ i = 2 ∨ i = 3 ∨ i = 4 ∨ i = 5 := by omega
      rcases hi6 with rfl | rfl | rfl | rfl | rfl | rfl
      · have hs1 := hsuc 0
        simp only [List.getD_cons_zero, List.set_cons_zero] at hs1
        have hac := hacc 0 (by omega)
        have hbi := hbit 0
        have hnext := ih (k + 1) true h1 h2 h3 h4 ks' xs' clk' (by omega) M'
        have hvl := hval [true, h1, h2, h3, h4]
        rw [hs1]
        generalize tellV telW f l [true, h1, h2, h3, h4] = val at *
        generalize accW f l k [h0, h1, h2, h3, h4] 0 = acc at *
        clear hsuc hacc hbit ih hs1 hfin
        have hlen : ∀ v, acc = some v → ∃ a0 a1 a2 a3, v = [a0, a1, a2, a3] := fun v e => len4 (hac v e).1
        cases h0
        rotate_left
        · simp only [σ5, sumW, onE, go_sem, Nat.reduceEqDiff, Nat.reduceAdd, Nat.reduceMul, Nat.reduceLT, Nat.reduceLeDiff, Int.reduceLT, Int.reduceLE, Bool.not_true, Int.reduceAdd, decide_true, undef, Bool.true_or]
          cases acc with
          | none => exact ⟨_, Sub.gc [0, 1, 2, 3, 4, 5, 6, 7] [37, 1, 2, 3, 4, 5, 6, 10, 36] rfl rfl, ks', xs', clk', M', rfl⟩
          | some v =>
            obtain ⟨a0, a1, a2, a3, rfl⟩ := hlen v rfl
            exact ⟨_, Sub.gc [0, 1, 2, 3, 4, 5, 6, 7] [37, 1, 2, 3, 4, 5, 6, 10, 36] rfl rfl, ks', xs', clk', M', rfl⟩
        cases ht : fit.testBit 0
        · rw [ht] at hbi
          simp only [σ5, sumW, onE, go_sem, Nat.reduceEqDiff, Nat.reduceAdd, Nat.reduceMul, Nat.reduceLT, Nat.reduceLeDiff, Int.reduceLT, Int.reduceLE, Bool.not_false, Int.reduceAdd, decide_true, beq_self_eq_true, Bool.or_true, hft, hbi]
          cases acc with
          | none => exact ⟨_, Sub.gc [0, 1, 2, 3, 4, 5, 6, 7] [37, 1, 2, 3, 4, 5, 6, 10, 36] rfl rfl, ks', xs', clk', M', rfl⟩
          | some v =>
            obtain ⟨a0, a1, a2, a3, rfl⟩ := hlen v rfl
            exact ⟨_, Sub.gc [0, 1, 2, 3, 4, 5, 6, 7] [37, 1, 2, 3, 4, 5, 6, 10, 36] rfl rfl, ks', xs', clk', M', rfl⟩
        rw [ht] at hbi
        cases val with
        | none =>
          simp only [σ5, sumW, onE, go_sem, Nat.reduceEqDiff, Nat.reduceAdd, Nat.reduceMul, Nat.reduceLeDiff, Int.reduceLT, Int.reduceLE, Bool.not_true, decide_true, undef, beq_self_eq_true, hft, hbi, hkw]
          refine lend5 (sum := sumW) hnext (by decide) rfl rfl rfl rfl rfl fun ks2 xs2 clk2 M2 => ?_
          simp only [go_sem, Nat.reduceEqDiff, Nat.reduceAdd, Nat.reduceLT, Bool.not_true, Bool.not_false, Int.reduceAdd, undef, Bool.or_false]
          cases acc with
          | none => exact ⟨_, Sub.gc [0, 1, 2, 3, 4, 5, 6, 7] [37, 1, 2, 3, 4, 5, 6, 10, 36] rfl rfl, ks2, xs2, clk2, M2, rfl⟩
          | some v =>
            obtain ⟨a0, a1, a2, a3, rfl⟩ := hlen v rfl
            exact ⟨_, Sub.gc [0, 1, 2, 3, 4, 5, 6, 7] [37, 1, 2, 3, 4, 5, 6, 10, 36] rfl rfl, ks2, xs2, clk2, M2, rfl⟩
        | some r =>
          have hr := hvl r rfl
          obtain ⟨r0, r1, r2, r3, rfl⟩ := len4 hr.1
          have hm := moreW_ok k 0 r0 r1 r2 r3 hk4 (by omega)
          have hX := hr.set k (x := 2 ^ 0) (by decide)
          generalize hXe : [r0, r1, r2, r3].set k (2 ^ 0) = X at *
          obtain ⟨s0, s1, s2, s3, rfl⟩ := len4 hX.1
          simp only [w4] at hm
          have hme : telW.m k 0 [r0, r1, r2, r3] = [s0, s1, s2, s3] := hXe
          simp only [σ5, sumW, onE, go_sem, Nat.reduceEqDiff, Nat.reduceAdd, Nat.reduceMul, Nat.reduceLeDiff, Int.reduceLT, Int.reduceLE, Bool.not_true, decide_true, undef, beq_self_eq_true, hft, hbi, hkw]
          refine lend5 (sum := sumW) hnext (by decide) rfl rfl rfl rfl rfl fun ks2 xs2 clk2 M2 => ?_
          have hX2 := hX.2
          simp only [List.mem_cons, List.not_mem_nil, or_false, forall_eq_or_imp, forall_eq] at hX2
          cases acc with
          | none =>
            simp only [kW, w4, List.cons_append, List.nil_append, go_sem, Nat.reduceEqDiff, Nat.reduceAdd, Nat.reduceLeDiff, Bool.not_true, undef]
            refine ACallL.quiet1 hm rfl rfl rfl ?_
            simp only [go_sem, Nat.reduceEqDiff, Nat.reduceAdd, Nat.reduceLT, Nat.reduceLeDiff, Bool.not_true, Int.reduceAdd, undef, Bool.or_false]
            exact ⟨_, Sub.gc [0, 1, 2, 3, 4, 5, 6, 7] [37, 1, 2, 3, 4, 5, 6, 10, 36] rfl rfl, ks2, xs2, clk2, M2, by simp only [hme]; rfl⟩
          | some v =>
            have ha := hac v rfl
            obtain ⟨a0, a1, a2, a3, rfl⟩ := hlen v rfl
            have ha2 := ha.2
            simp only [List.mem_cons, List.not_mem_nil, or_false, forall_eq_or_imp, forall_eq] at ha2
            have hj := joinW_ok a0 a1 a2 a3 s0 s1 s2 s3 ⟨by omega, by omega, by omega, by omega, by omega, by omega, by omega, by omega⟩
            simp only [kW, w4, List.cons_append, List.nil_append, go_sem, Nat.reduceEqDiff, Nat.reduceAdd, Nat.reduceLeDiff, Bool.not_true, undef]
            refine ACallL.quiet1 hm rfl rfl rfl ?_
            simp only [go_sem, Nat.reduceEqDiff, Nat.reduceAdd, Nat.reduceLeDiff, undef]
            refine ACallL.quiet1 hj rfl rfl rfl ?_
            simp only [go_sem, Nat.reduceEqDiff, Nat.reduceAdd, Nat.reduceLT, Nat.reduceLeDiff, Bool.not_true, Int.reduceAdd, undef, Bool.or_false]
            exact ⟨_, Sub.gc [0, 1, 2, 3, 4, 5, 6, 7] [37, 1, 2, 3, 4, 5, 6, 10, 36] rfl rfl, ks2, xs2, clk2, M2, by simp only [hme]; rfl⟩
      · have hs1 := hsuc 1
        simp only [List.getD_cons_zero, List.getD_cons_succ, List.set_cons_zero, List.set_cons_succ] at hs1
        have hac := hacc 1 (by omega)
        have hbi := hbit 1
        have hnext := ih (k + 1) h0 true h2 h3 h4 ks' xs' clk' (by omega) M'
        have hvl := hval [h0, true, h2, h3, h4]
        rw [hs1]
        generalize tellV telW f l [h0, true, h2, h3, h4] = val at *
        generalize accW f l k [h0, h1, h2, h3, h4] 1 = acc at *
        clear hsuc hacc hbit ih hs1 hfin
        have hlen : ∀ v, acc = some v → ∃ a0 a1 a2 a3, v = [a0, a1, a2, a3] := fun v e => len4 (hac v e).1
        cases h1
        rotate_left
        · simp only [σ5, sumW, onE, go_sem, Nat.reduceEqDiff, Nat.reduceAdd, Nat.reduceMul, Nat.reduceLT, Nat.reduceLeDiff, Int.reduceToNat, Int.reduceLT, Int.reduceLE, Bool.not_true, Int.reduceAdd, decide_true, undef, Bool.true_or]
          cases acc with
          | none => exact ⟨_, Sub.gc [0, 1, 2, 3, 4, 5, 6, 7] [37, 1, 2, 3, 4, 5, 6, 10, 36] rfl rfl, ks', xs', clk', M', rfl⟩
          | some v =>
            obtain ⟨a0, a1, a2, a3, rfl⟩ := hlen v rfl
            exact ⟨_, Sub.gc [0, 1, 2, 3, 4, 5, 6, 7] [37, 1, 2, 3, 4, 5, 6, 10, 36] rfl rfl, ks', xs', clk', M', rfl⟩
        cases ht : fit.testBit 1
        · rw [ht] at hbi
          simp only [σ5, sumW, onE, go_sem, Nat.reduceEqDiff, Nat.reduceAdd, Nat.reduceMul, Nat.reduceLT, Nat.reduceLeDiff, Int.reduceToNat, Int.reduceLT, Int.reduceLE, Bool.not_false, Int.reduceAdd, decide_true, beq_self_eq_true, Bool.or_true, hft, hbi]
          cases acc with
          | none => exact ⟨_, Sub.gc [0, 1, 2, 3, 4, 5, 6, 7] [37, 1, 2, 3, 4, 5, 6, 10, 36] rfl rfl, ks', xs', clk', M', rfl⟩
          | some v =>
            obtain ⟨a0, a1, a2, a3, rfl⟩ := hlen v rfl
            exact ⟨_, Sub.gc [0, 1, 2, 3, 4, 5, 6, 7] [37, 1, 2, 3, 4, 5, 6, 10, 36] rfl rfl, ks', xs', clk', M', rfl⟩
        rw [ht] at hbi
        cases val with
        | none =>
          simp only [σ5, sumW, onE, go_sem, Nat.reduceEqDiff, Nat.reduceAdd, Nat.reduceMul, Nat.reduceLeDiff, Int.reduceToNat, Int.reduceLT, Int.reduceLE, Bool.not_true, decide_true, undef, beq_self_eq_true, hft, hbi, hkw]
          refine lend5 (sum := sumW) hnext (by decide) rfl rfl rfl rfl rfl fun ks2 xs2 clk2 M2 => ?_
          simp only [go_sem, Nat.reduceEqDiff, Nat.reduceAdd, Nat.reduceLT, Bool.not_true, Bool.not_false, Int.reduceAdd, undef, Bool.or_false]
          cases acc with
          | none => exact ⟨_, Sub.gc [0, 1, 2, 3, 4, 5, 6, 7] [37, 1, 2, 3, 4, 5, 6, 10, 36] rfl rfl, ks2, xs2, clk2, M2, rfl⟩
          | some v =>
            obtain ⟨a0, a1, a2, a3, rfl⟩ := hlen v rfl
            exact ⟨_, Sub.gc [0, 1, 2, 3, 4, 5, 6, 7] [37, 1, 2, 3, 4, 5, 6, 10, 36] rfl rfl, ks2, xs2, clk2, M2, rfl⟩
        | some r =>
          have hr := hvl r rfl
          obtain ⟨r0, r1, r2, r3, rfl⟩ := len4 hr.1
          have hm := moreW_ok k 1 r0 r1 r2 r3 hk4 (by omega)
          have hX := hr.set k (x := 2 ^ 1) (by decide)
          generalize hXe : [r0, r1, r2, r3].set k (2 ^ 1) = X at *
          obtain ⟨s0, s1, s2, s3, rfl⟩ := len4 hX.1
          simp only [w4] at hm
          have hme : telW.m k 1 [r0, r1, r2, r3] = [s0, s1, s2, s3] := hXe
          simp only [σ5, sumW, onE, go_sem, Nat.reduceEqDiff, Nat.reduceAdd, Nat.reduceMul, Nat.reduceLeDiff, Int.reduceToNat, Int.reduceLT, Int.reduceLE, Bool.not_true, decide_true, undef, beq_self_eq_true, hft, hbi, hkw]
          refine lend5 (sum := sumW) hnext (by decide) rfl rfl rfl rfl rfl fun ks2 xs2 clk2 M2 => ?_
          have hX2 := hX.2
          simp only [List.mem_cons, List.not_mem_nil, or_false, forall_eq_or_imp, forall_eq] at hX2
          cases acc with
          | none =>
            simp only [kW, w4, List.cons_append, List.nil_append, go_sem, Nat.reduceEqDiff, Nat.reduceAdd, Nat.reduceLeDiff, Bool.not_true, undef]
            refine ACallL.quiet1 hm rfl rfl rfl ?_
            simp only [go_sem, Nat.reduceEqDiff, Nat.reduceAdd, Nat.reduceLT, Nat.reduceLeDiff, Bool.not_true, Int.reduceAdd, undef, Bool.or_false]
            exact ⟨_, Sub.gc [0, 1, 2, 3, 4, 5, 6, 7] [37, 1, 2, 3, 4, 5, 6, 10, 36] rfl rfl, ks2, xs2, clk2, M2, by simp only [hme]; rfl⟩
          | some v =>
            have ha := hac v rfl
            obtain ⟨a0, a1, a2, a3, rfl⟩ := hlen v rfl
            have ha2 := ha.2
            simp only [List.mem_cons, List.not_mem_nil, or_false, forall_eq_or_imp, forall_eq] at ha2
            have hj := joinW_ok a0 a1 a2 a3 s0 s1 s2 s3 ⟨by omega, by omega, by omega, by omega, by omega, by omega, by omega, by omega⟩
            simp only [kW, w4, List.cons_append, List.nil_append, go_sem, Nat.reduceEqDiff, Nat.reduceAdd, Nat.reduceLeDiff, Bool.not_true, undef]
            refine ACallL.quiet1 hm rfl rfl rfl ?_
            simp only [go_sem, Nat.reduceEqDiff, Nat.reduceAdd, Nat.reduceLeDiff, undef]
            refine ACallL.quiet1 hj rfl rfl rfl ?_
            simp only [go_sem, Nat.reduceEqDiff, Nat.reduceAdd, Nat.reduceLT, Nat.reduceLeDiff, Bool.not_true, Int.reduceAdd, undef, Bool.or_false]
            exact ⟨_, Sub.gc [0, 1, 2, 3, 4, 5, 6, 7] [37, 1, 2, 3, 4, 5, 6, 10, 36] rfl rfl, ks2, xs2, clk2, M2, by simp only [hme]; rfl⟩
      · have hs1 := hsuc 2
        simp only [List.getD_cons_zero, List.getD_cons_succ, List.set_cons_zero, List.set_cons_succ] at hs1
        have hac := hacc 2 (by omega)
        have hbi := hbit 2
        have hnext := ih (k + 1) h0 h1 true h3 h4 ks' xs' clk' (by omega) M'
        have hvl := hval [h0, h1, true, h3, h4]
        rw [hs1]
        generalize tellV telW f l [h0, h1, true, h3, h4] = val at *
        generalize accW f l k [h0, h1, h2, h3, h4] 2 = acc at *
        clear hsuc hacc hbit ih hs1 hfin
        have hlen : ∀ v, acc = some v → ∃ a0 a1 a2 a3, v = [a0, a1, a2, a3] := fun v e => len4 (hac v e).1
        cases h2
        rotate_left
        · simp only [σ5, sumW, onE, go_sem, Nat.reduceEqDiff, Nat.reduceAdd, Nat.reduceMul, Nat.reduceLT, Nat.reduceLeDiff, Int.reduceToNat, Int.reduceLT, Int.reduceLE, Bool.not_true, Int.reduceAdd, decide_true, undef, Bool.true_or]
          cases acc with
          | none => exact ⟨_, Sub.gc [0, 1, 2, 3, 4, 5, 6, 7] [37, 1, 2, 3, 4, 5, 6, 10, 36] rfl rfl, ks', xs', clk', M', rfl⟩
          | some v =>
            obtain ⟨a0, a1, a2, a3, rfl⟩ := hlen v rfl
            exact ⟨_, Sub.gc [0, 1, 2, 3, 4, 5, 6, 7] [37, 1, 2, 3, 4, 5, 6, 10, 36] rfl rfl, ks', xs', clk', M', rfl⟩
        cases ht : fit.testBit 2
        · rw [ht] at hbi
          simp only [σ5, sumW, onE, go_sem, Nat.reduceEqDiff, Nat.reduceAdd, Nat.reduceMul, Nat.reduceLT, Nat.reduceLeDiff, Int.reduceToNat, Int.reduceLT, Int.reduceLE, Bool.not_false, Int.reduceAdd, decide_true, beq_self_eq_true, Bool.or_true, hft, hbi]
          cases acc with
          | none => exact ⟨_, Sub.gc [0, 1, 2, 3, 4, 5, 6, 7] [37, 1, 2, 3, 4, 5, 6, 10, 36] rfl rfl, ks', xs', clk', M', rfl⟩
          | some v =>
            obtain ⟨a0, a1, a2, a3, rfl⟩ := hlen v rfl
            exact ⟨_, Sub.gc [0, 1, 2, 3, 4, 5, 6, 7] [37, 1, 2, 3, 4, 5, 6, 10, 36] rfl rfl, ks', xs', clk', M', rfl⟩
        rw [ht] at hbi
        cases val with
        | none =>
          simp only [σ5, sumW, onE, go_sem, Nat.reduceEqDiff, Nat.reduceAdd, Nat.reduceMul, Nat.reduceLeDiff, Int.reduceToNat, Int.reduceLT, Int.reduceLE, Bool.not_true, decide_true, undef, beq_self_eq_true, hft, hbi, hkw]
          refine lend5 (sum := sumW) hnext (by decide) rfl rfl rfl rfl rfl fun ks2 xs2 clk2 M2 => ?_
          simp only [go_sem, Nat.reduceEqDiff, Nat.reduceAdd, Nat.reduceLT, Bool.not_true, Bool.not_false, Int.reduceAdd, undef, Bool.or_false]
          cases acc with
          | none => exact ⟨_, Sub.gc [0, 1, 2, 3, 4, 5, 6, 7] [37, 1, 2, 3, 4, 5, 6, 10, 36] rfl rfl, ks2, xs2, clk2, M2, rfl⟩
          | some v =>
            obtain ⟨a0, a1, a2, a3, rfl⟩ := hlen v rfl
            exact ⟨_, Sub.gc [0, 1, 2, 3, 4, 5, 6, 7] [37, 1, 2, 3, 4, 5, 6, 10, 36] rfl rfl, ks2, xs2, clk2, M2, rfl⟩
        | some r =>
          have hr := hvl r rfl
          obtain ⟨r0, r1, r2, r3, rfl⟩ := len4 hr.1
          have hm := moreW_ok k 2 r0 r1 r2 r3 hk4 (by omega)
          have hX := hr.set k (x := 2 ^ 2) (by decide)
          generalize hXe : [r0, r1, r2, r3].set k (2 ^ 2) = X at *
          obtain ⟨s0, s1, s2, s3, rfl⟩ := len4 hX.1
          simp only [w4] at hm
          have hme : telW.m k 2 [r0, r1, r2, r3] = [s0, s1, s2, s3] := hXe
          simp only [σ5, sumW, onE, go_sem, Nat.reduceEqDiff, Nat.reduceAdd, Nat.reduceMul, Nat.reduceLeDiff, Int.reduceToNat, Int.reduceLT, Int.reduceLE, Bool.not_true, decide_true, undef, beq_self_eq_true, hft, hbi, hkw]
          refine lend5 (sum := sumW) hnext (by decide) rfl rfl rfl rfl rfl fun ks2 xs2 clk2 M2 => ?_
          have hX2 := hX.2
          simp only [List.mem_cons, List.not_mem_nil, or_false, forall_eq_or_imp, forall_eq] at hX2
          cases acc with
          | none =>
            simp only [kW, w4, List.cons_append, List.nil_append, go_sem, Nat.reduceEqDiff, Nat.reduceAdd, Nat.reduceLeDiff, Bool.not_true, undef]
            refine ACallL.quiet1 hm rfl rfl rfl ?_
            simp only [go_sem, Nat.reduceEqDiff, Nat.reduceAdd, Nat.reduceLT, Nat.reduceLeDiff, Bool.not_true, Int.reduceAdd, undef, Bool.or_false]
            exact ⟨_, Sub.gc [0, 1, 2, 3, 4, 5, 6, 7] [37, 1, 2, 3, 4, 5, 6, 10, 36] rfl rfl, ks2, xs2, clk2, M2, by simp only [hme]; rfl⟩
          | some v =>
            have ha := hac v rfl
            obtain ⟨a0, a1, a2, a3, rfl⟩ := hlen v rfl
            have ha2 := ha.2
            simp only [List.mem_cons, List.not_mem_nil, or_false, forall_eq_or_imp, forall_eq] at ha2
            have hj := joinW_ok a0 a1 a2 a3 s0 s1 s2 s3 ⟨by omega, by omega, by omega, by omega, by omega, by omega, by omega, by omega⟩
            simp only [kW, w4, List.cons_append, List.nil_append, go_sem, Nat.reduceEqDiff, Nat.reduceAdd, Nat.reduceLeDiff, Bool.not_true, undef]
            refine ACallL.quiet1 hm rfl rfl rfl ?_
            simp only [go_sem, Nat.reduceEqDiff, Nat.reduceAdd, Nat.reduceLeDiff, undef]
            refine ACallL.quiet1 hj rfl rfl rfl ?_
            simp only [go_sem, Nat.reduceEqDiff, Nat.reduceAdd, Nat.reduceLT, Nat.reduceLeDiff, Bool.not_true, Int.reduceAdd, undef, Bool.or_false]
            exact ⟨_, Sub.gc [0, 1, 2, 3, 4, 5, 6, 7] [37, 1, 2, 3, 4, 5, 6, 10, 36] rfl rfl, ks2, xs2, clk2, M2, by simp only [hme]; rfl⟩
      · have hs1 := hsuc 3
        simp only [List.getD_cons_zero, List.getD_cons_succ, List.set_cons_zero, List.set_cons_succ] at hs1
        have hac := hacc 3 (by omega)
        have hbi := hbit 3
        have hnext := ih (k + 1) h0 h1 h2 true h4 ks' xs' clk' (by omega) M'
        have hvl := hval [h0, h1, h2, true, h4]
        rw [hs1]
        generalize tellV telW f l [h0, h1, h2, true, h4] = val at *
        generalize accW f l k [h0, h1, h2, h3, h4] 3 = acc at *
        clear hsuc hacc hbit ih hs1 hfin
        have hlen : ∀ v, acc = some v → ∃ a0 a1 a2 a3, v = [a0, a1, a2, a3] := fun v e => len4 (hac v e).1
        cases h3
        rotate_left
        · simp only [σ5, sumW, onE, go_sem, Nat.reduceEqDiff, Nat.reduceAdd, Nat.reduceMul, Nat.reduceLT, Nat.reduceLeDiff, Int.reduceToNat, Int.reduceLT, Int.reduceLE, Bool.not_true, Int.reduceAdd, decide_true, undef, Bool.true_or]
          cases acc with
          | none => exact ⟨_, Sub.gc [0, 1, 2, 3, 4, 5, 6, 7] [37, 1, 2, 3, 4, 5, 6, 10, 36] rfl rfl, ks', xs', clk', M', rfl⟩
          | some v =>
            obtain ⟨a0, a1, a2, a3, rfl⟩ := hlen v rfl
            exact ⟨_, Sub.gc [0, 1, 2, 3, 4, 5, 6, 7] [37, 1, 2, 3, 4, 5, 6, 10, 36] rfl rfl, ks', xs', clk', M', rfl⟩
        cases ht : fit.testBit 3
        · rw [ht] at hbi
          simp only [σ5, sumW, onE, go_sem, Nat.reduceEqDiff, Nat.reduceAdd, Nat.reduceMul, Nat.reduceLT, Nat.reduceLeDiff, Int.reduceToNat, Int.reduceLT, Int.reduceLE, Bool.not_false, Int.reduceAdd, decide_true, beq_self_eq_true, Bool.or_true, hft, hbi]
          cases acc with
          | none => exact ⟨_, Sub.gc [0, 1, 2, 3, 4, 5, 6, 7] [37, 1, 2, 3, 4, 5, 6, 10, 36] rfl rfl, ks', xs', clk', M', rfl⟩
          | some v =>
            obtain ⟨a0, a1, a2, a3, rfl⟩ := hlen v rfl
            exact ⟨_, Sub.gc [0, 1, 2, 3, 4, 5, 6, 7] [37, 1, 2, 3, 4, 5, 6, 10, 36] rfl rfl, ks', xs', clk', M', rfl⟩
        rw [ht] at hbi
        cases val with
        | none =>
          simp only [σ5, sumW, onE, go_sem, Nat.reduceEqDiff, Nat.reduceAdd, Nat.reduceMul, Nat.reduceLeDiff, Int.reduceToNat, Int.reduceLT, Int.reduceLE, Bool.not_true, decide_true, undef, beq_self_eq_true, hft, hbi, hkw]
          refine lend5 (sum := sumW) hnext (by decide) rfl rfl rfl rfl rfl fun ks2 xs2 clk2 M2 => ?_
          simp only [go_sem, Nat.reduceEqDiff, Nat.reduceAdd, Nat.reduceLT, Bool.not_true, Bool.not_false, Int.reduceAdd, undef, Bool.or_false]
          cases acc with
          | none => exact ⟨_, Sub.gc [0, 1, 2, 3, 4, 5, 6, 7] [37, 1, 2, 3, 4, 5, 6, 10, 36] rfl rfl, ks2, xs2, clk2, M2, rfl⟩
          | some v =>
            obtain ⟨a0, a1, a2, a3, rfl⟩ := hlen v rfl
            exact ⟨_, Sub.gc [0, 1, 2, 3, 4, 5, 6, 7] [37, 1, 2, 3, 4, 5, 6, 10, 36] rfl rfl, ks2, xs2, clk2, M2, rfl⟩
        | some r =>
          have hr := hvl r rfl
          obtain ⟨r0, r1, r2, r3, rfl⟩ := len4 hr.1
          have hm := moreW_ok k 3 r0 r1 r2 r3 hk4 (by omega)
          have hX := hr.set k (x := 2 ^ 3) (by decide)
          generalize hXe : [r0, r1, r2, r3].set k (2 ^ 3) = X at *
          obtain ⟨s0, s1, s2, s3, rfl⟩ := len4 hX.1
          simp only [w4] at hm
          have hme : telW.m k 3 [r0, r1, r2, r3] = [s0, s1, s2, s3] := hXe
          simp only [σ5, sumW, onE, go_sem, Nat.reduceEqDiff, Nat.reduceAdd, Nat.reduceMul, Nat.reduceLeDiff, Int.reduceToNat, Int.reduceLT, Int.reduceLE, Bool.not_true, decide_true, undef, beq_self_eq_true, hft, hbi, hkw]
          refine lend5 (sum := sumW) hnext (by decide) rfl rfl rfl rfl rfl fun ks2 xs2 clk2 M2 => ?_
          have hX2 := hX.2
          simp only [List.mem_cons, List.not_mem_nil, or_false, forall_eq_or_imp, forall_eq] at hX2
          cases acc with
          | none =>
            simp only [kW, w4, List.cons_append, List.nil_append, go_sem, Nat.reduceEqDiff, Nat.reduceAdd, Nat.reduceLeDiff, Bool.not_true, undef]
            refine ACallL.quiet1 hm rfl rfl rfl ?_
            simp only [go_sem, Nat.reduceEqDiff, Nat.reduceAdd, Nat.reduceLT, Nat.reduceLeDiff, Bool.not_true, Int.reduceAdd, undef, Bool.or_false]
            exact ⟨_, Sub.gc [0, 1, 2, 3, 4, 5, 6, 7] [37, 1, 2, 3, 4, 5, 6, 10, 36] rfl rfl, ks2, xs2, clk2, M2, by simp only [hme]; rfl⟩
          | some v =>
            have ha := hac v rfl
            obtain ⟨a0, a1, a2, a3, rfl⟩ := hlen v rfl
            have ha2 := ha.2
            simp only [List.mem_cons, List.not_mem_nil, or_false, forall_eq_or_imp, forall_eq] at ha2
            have hj := joinW_ok a0 a1 a2 a3 s0 s1 s2 s3 ⟨by omega, by omega, by omega, by omega, by omega, by omega, by omega, by omega⟩
            simp only [kW, w4, List.cons_append, List.nil_append, go_sem, Nat.reduceEqDiff, Nat.reduceAdd, Nat.reduceLeDiff, Bool.not_true, undef]
            refine ACallL.quiet1 hm rfl rfl rfl ?_
            simp only [go_sem, Nat.reduceEqDiff, Nat.reduceAdd, Nat.reduceLeDiff, undef]
            refine ACallL.quiet1 hj rfl rfl rfl ?_
            simp only [go_sem, Nat.reduceEqDiff, Nat.reduceAdd, Nat.reduceLT, Nat.reduceLeDiff, Bool.not_true, Int.reduceAdd, undef, Bool.or_false]
            exact ⟨_, Sub.gc [0, 1, 2, 3, 4, 5, 6, 7] [37, 1, 2, 3, 4, 5, 6, 10, 36] rfl rfl, ks2, xs2, clk2, M2, by simp only [hme]; rfl⟩
      · have hs1 := hsuc 4
        simp only [List.getD_cons_zero, List.getD_cons_succ, List.set_cons_zero, List.set_cons_succ] at hs1
        have hac := hacc 4 (by omega)
        have hbi := hbit 4
        have hnext := ih (k + 1) h0 h1 h2 h3 true ks' xs' clk' (by omega) M'
        have hvl := hval [h0, h1, h2, h3, true]
        rw [hs1]
        generalize tellV telW f l [h0, h1, h2, h3, true] = val at *
        generalize accW f l k [h0, h1, h2, h3, h4] 4 = acc at *
        clear hsuc hacc hbit ih hs1 hfin
        have hlen : ∀ v, acc = some v → ∃ a0 a1 a2 a3, v = [a0, a1, a2, a3] := fun v e => len4 (hac v e).1
        cases h4
        rotate_left
        · simp only [σ5, sumW, onE, go_sem, Nat.reduceEqDiff, Nat.reduceAdd, Nat.reduceMul, Nat.reduceLT, Int.reduceToNat, Int.reduceLT, Int.reduceLE, Bool.not_true, Int.reduceAdd, decide_true, undef, Bool.true_or]
          cases acc with
          | none => exact ⟨_, Sub.gc [0, 1, 2, 3, 4, 5, 6, 7] [37, 1, 2, 3, 4, 5, 6, 10, 36] rfl rfl, ks', xs', clk', M', rfl⟩
          | some v =>
            obtain ⟨a0, a1, a2, a3, rfl⟩ := hlen v rfl
            exact ⟨_, Sub.gc [0, 1, 2, 3, 4, 5, 6, 7] [37, 1, 2, 3, 4, 5, 6, 10, 36] rfl rfl, ks', xs', clk', M', rfl⟩
        cases ht : fit.testBit 4
        · rw [ht] at hbi
          simp only [σ5, sumW, onE, go_sem, Nat.reduceEqDiff, Nat.reduceAdd, Nat.reduceMul, Nat.reduceLT, Nat.reduceLeDiff, Int.reduceToNat, Int.reduceLT, Int.reduceLE, Bool.not_false, Int.reduceAdd, decide_true, beq_self_eq_true, Bool.or_true, hft, hbi]
          cases acc with
          | none => exact ⟨_, Sub.gc [0, 1, 2, 3, 4, 5, 6, 7] [37, 1, 2, 3, 4, 5, 6, 10, 36] rfl rfl, ks', xs', clk', M', rfl⟩
          | some v =>
            obtain ⟨a0, a1, a2, a3, rfl⟩ := hlen v rfl
            exact ⟨_, Sub.gc [0, 1, 2, 3, 4, 5, 6, 7] [37, 1, 2, 3, 4, 5, 6, 10, 36] rfl rfl, ks', xs', clk', M', rfl⟩
        rw [ht] at hbi
        cases val with
        | none =>
          simp only [σ5, sumW, onE, go_sem, Nat.reduceEqDiff, Nat.reduceAdd, Nat.reduceMul, Nat.reduceLeDiff, Int.reduceToNat, Int.reduceLT, Int.reduceLE, Bool.not_true, decide_true, undef, beq_self_eq_true, hft, hbi, hkw]
          refine lend5 (sum := sumW) hnext (by decide) rfl rfl rfl rfl rfl fun ks2 xs2 clk2 M2 => ?_
          simp only [go_sem, Nat.reduceEqDiff, Nat.reduceAdd, Nat.reduceLT, Bool.not_true, Bool.not_false, Int.reduceAdd, undef, Bool.or_false]
          cases acc with
          | none => exact ⟨_, Sub.gc [0, 1, 2, 3, 4, 5, 6, 7] [37, 1, 2, 3, 4, 5, 6, 10, 36] rfl rfl, ks2, xs2, clk2, M2, rfl⟩
          | some v =>
            obtain ⟨a0, a1, a2, a3, rfl⟩ := hlen v rfl
            exact ⟨_, Sub.gc [0, 1, 2, 3, 4, 5, 6, 7] [37, 1, 2, 3, 4, 5, 6, 10, 36] rfl rfl, ks2, xs2, clk2, M2, rfl⟩
        | some r =>
          have hr := hvl r rfl
          obtain ⟨r0, r1, r2, r3, rfl⟩ := len4 hr.1
          have hm := moreW_ok k 4 r0 r1 r2 r3 hk4 (by omega)
          have hX := hr.set k (x := 2 ^ 4) (by decide)
          generalize hXe : [r0, r1, r2, r3].set k (2 ^ 4) = X at *
          obtain ⟨s0, s1, s2, s3, rfl⟩ := len4 hX.1
          simp only [w4] at hm
          have hme : telW.m k 4 [r0, r1, r2, r3] = [s0, s1, s2, s3] := hXe
          simp only [σ5, sumW, onE, go_sem, Nat.reduceEqDiff, Nat.reduceAdd, Nat.reduceMul, Nat.reduceLeDiff, Int.reduceToNat, Int.reduceLT, Int.reduceLE, Bool.not_true, decide_true, undef, beq_self_eq_true, hft, hbi, hkw]
          refine lend5 (sum := sumW) hnext (by decide) rfl rfl rfl rfl rfl fun ks2 xs2 clk2 M2 => ?_
          have hX2 := hX.2
          simp only [List.mem_cons, List.not_mem_nil, or_false, forall_eq_or_imp, forall_eq] at hX2
          cases acc with
          | none =>
            simp only [kW, w4, List.cons_append, List.nil_append, go_sem, Nat.reduceEqDiff, Nat.reduceAdd, Nat.reduceLeDiff, Bool.not_true, undef]
            refine ACallL.quiet1 hm rfl rfl rfl ?_
            simp only [go_sem, Nat.reduceEqDiff, Nat.reduceAdd, Nat.reduceLT, Nat.reduceLeDiff, Bool.not_true, Int.reduceAdd, undef, Bool.or_false]
            exact ⟨_, Sub.gc [0, 1, 2, 3, 4, 5, 6, 7] [37, 1, 2, 3, 4, 5, 6, 10, 36] rfl rfl, ks2, xs2, clk2, M2, by simp only [hme]; rfl⟩
          | some v =>
            have ha := hac v rfl
            obtain ⟨a0, a1, a2, a3, rfl⟩ := hlen v rfl
            have ha2 := ha.2
            simp only [List.mem_cons, List.not_mem_nil, or_false, forall_eq_or_imp, forall_eq] at ha2
            have hj := joinW_ok a0 a1 a2 a3 s0 s1 s2 s3 ⟨by omega, by omega, by omega, by omega, by omega, by omega, by omega, by omega⟩
            simp only [kW, w4, List.cons_append, List.nil_append, go_sem, Nat.reduceEqDiff, Nat.reduceAdd, Nat.reduceLeDiff, Bool.not_true, undef]
            refine ACallL.quiet1 hm rfl rfl rfl ?_
            simp only [go_sem, Nat.reduceEqDiff, Nat.reduceAdd, Nat.reduceLeDiff, undef]
            refine ACallL.quiet1 hj rfl rfl rfl ?_
            simp only [go_sem, Nat.reduceEqDiff, Nat.reduceAdd, Nat.reduceLT, Nat.reduceLeDiff, Bool.not_true, Int.reduceAdd, undef, Bool.or_false]
            exact ⟨_, Sub.gc [0, 1, 2, 3, 4, 5, 6, 7] [37, 1, 2, 3, 4, 5, 6, 10, 36] rfl rfl, ks2, xs2, clk2, M2, by simp only [hme]; rfl⟩
      · rw [hfin] at hg
        have hac := hacc 5 (by omega)
        clear hsuc hacc hbit ih
        generalize accW f l k [h0, h1, h2, h3, h4] 5 = v at *
        cases v with
        | none =>
          simp only [kW, σ5, sumW, onE, go_sem, Nat.reduceEqDiff, Nat.reduceAdd, Int.reduceLT, decide_false, undef, toKey_at]
          cases hk2 : kfind (some [some IntKind.i64, none, none, none, none, none], none) ks' (keyA k h0 h1 h2 h3 h4) with
          | some i =>
            simp only [go_sem, Nat.reduceEqDiff, Nat.reduceAdd, Nat.reduceLeDiff, undef]
            have M2 := M'.put hk2
            rw [hg] at M2
            exact finL_ret [0, 1, 2, 3, 4] ⟨rfl, rfl, rfl, rfl, _, rfl, (by rw [hfin]; rfl), _, _, _, M2, rfl⟩
          | none =>
            simp only [go_sem, Nat.reduceEqDiff, Nat.reduceAdd, Nat.reduceLeDiff, undef]
            have M2 := M'.new (k := k) (h0 := h0) (h1 := h1) (h2 := h2) (h3 := h3) (h4 := h4) (clk := clk') (by omega)
            rw [hg] at M2
            exact finL_ret [0, 1, 2, 3, 4] ⟨rfl, rfl, rfl, rfl, _, rfl, (by rw [hfin]; rfl), _, _, _, M2, rfl⟩
        | some n =>
          obtain ⟨n0, n1, n2, n3, rfl⟩ := len4 (hac n rfl).1
          simp only [kW, w4, List.cons_append, List.nil_append, σ5, sumW, onE, go_sem, Nat.reduceEqDiff, Nat.reduceAdd, Int.reduceLT, decide_false, undef, toKey_at]
          cases hk2 : kfind (some [some IntKind.i64, none, none, none, none, none], none) ks' (keyA k h0 h1 h2 h3 h4) with
          | some i =>
            simp only [go_sem, Nat.reduceEqDiff, Nat.reduceAdd, Nat.reduceLeDiff, undef]
            have M2 := M'.put hk2
            rw [hg] at M2
            exact finL_ret [0, 1, 2, 3, 4] ⟨rfl, rfl, rfl, rfl, _, rfl, (by rw [hfin]; rfl), _, _, _, M2, rfl⟩
          | none =>
            simp only [go_sem, Nat.reduceEqDiff, Nat.reduceAdd, Nat.reduceLeDiff, undef]
            have M2 := M'.new (k := k) (h0 := h0) (h1 := h1) (h2 := h2) (h3 := h3) (h4 := h4) (clk := clk') (by omega)
            rw [hg] at M2
            exact finL_ret [0, 1, 2, 3, 4] ⟨rfl, rfl, rfl, rfl, _, rfl, (by rw [hfin]; rfl), _, _, _, M2, rfl⟩
end Go.Proofs.YtnmmhkkmejbckaaGreatDoor

/- How many truths there are, and whose each find can be. -/
namespace Go.Proofs.YtnmmhkkmejbckaaGreatDoor
open Go Go.Ab

set_option maxRecDepth 8000 in
set_option maxHeartbeats 2000000 in
theorem tellI_ok (f : List Nat) (hf4 : f.length ≤ 4) (hf : ∀ x ∈ f, x < 64) : ACall Tryz.prog 79 [.t (.slice 1 (tNs f)), .t (.agg sumI)] [] (res (kO (tellV telN f f.length has0))) := by
  have hon := onI_ok f hf4 hf f.length 0 false false false false false [] [] 0 (Nat.zero_add _) (MapOK.nil _ _)
  have h0 : has0 = [false, false, false, false, false] := rfl
  refine ACall.walk k79 ?_
  unfold c79 sumI
  rw [h0]
  generalize tellV telN f f.length [false, false, false, false, false] = v at *
  cases v with
  | none =>
    simp only [go_sem, Nat.reduceEqDiff, Nat.reduceAdd, undef]
    refine lend5 (sum := sumI) (a := 0) (b := 1) (c := 3) (d := 4) (e := 2) hon (by decide) rfl rfl rfl rfl rfl fun ks2 xs2 clk2 M2 => ?_
    simp only [go_sem, Nat.reduceEqDiff]
    exact finL_ret [] ⟨rfl, rfl, rfl, rfl, _, rfl, res_mk rfl⟩
  | some n =>
    simp only [go_sem, Nat.reduceEqDiff, Nat.reduceAdd, undef]
    refine lend5 (sum := sumI) (a := 0) (b := 1) (c := 3) (d := 4) (e := 2) hon (by decide) rfl rfl rfl rfl rfl fun ks2 xs2 clk2 M2 => ?_
    simp only [go_sem, Nat.reduceEqDiff]
    exact finL_ret [] ⟨rfl, rfl, rfl, rfl, _, rfl, res_mk rfl⟩
set_option maxRecDepth 8000 in
theorem ways_ok (f : List Nat) (hf4 : f.length ≤ 4) (hf : ∀ x ∈ f, x < 64) : ACall Tryz.prog 53 [.t (.slice 1 (tNs f))] [] (ret (vi (waysN f : Nat))) := by
  have ht := tellI_ok f hf4 hf
  rw [ways_eq] at ht
  refine ACall.walk k53 ?_
  unfold c53
  unfold sumI at ht
  by_cases hz : waysN f = 0
  · rw [if_pos hz] at ht
    rw [hz]
    simp only [go_sem, Nat.reduceEqDiff, Nat.reduceAdd, Nat.reduceLeDiff]
    refine ACallL.fresh1 ht rfl ?_
    simp only [kO, go_sem, Nat.reduceEqDiff]
    exact finL_ret [] ⟨rfl, rfl, rfl, rfl, _, rfl, ret_mk rfl⟩
  · rw [if_neg hz] at ht
    simp only [go_sem, Nat.reduceEqDiff, Nat.reduceAdd, Nat.reduceLeDiff]
    refine ACallL.fresh1 ht rfl ?_
    simp only [kO, go_sem, Nat.reduceEqDiff]
    exact finL_ret [] ⟨rfl, rfl, rfl, rfl, _, rfl, ret_mk rfl⟩
set_option maxRecDepth 8000 in
set_option maxHeartbeats 2000000 in
theorem tellW_call (f : List Nat) (hf4 : f.length ≤ 4) (hf : ∀ x ∈ f, x < 64) : ACall Tryz.prog 82 [.t (.slice 1 (tNs f)), .t (.agg sumW)] [] (res (kWO (tellV telW f f.length has0))) := by
  have hon := onW_ok f hf4 hf f.length 0 false false false false false [] [] 0 (Nat.zero_add _) (MapOK.nil _ _)
  have h0 : has0 = [false, false, false, false, false] := rfl
  have hl := tellW_ok f f.length has0
  refine ACall.walk k82 ?_
  unfold c82 sumW
  rw [h0] at hl ⊢
  generalize tellV telW f f.length [false, false, false, false, false] = v at *
  cases v with
  | none =>
    simp only [go_sem, Nat.reduceEqDiff, Nat.reduceAdd, undef]
    refine lend5 (sum := sumW) (a := 0) (b := 1) (c := 4) (d := 5) (e := 3) hon (by decide) rfl rfl rfl rfl rfl fun ks2 xs2 clk2 M2 => ?_
    simp only [go_sem, Nat.reduceEqDiff, Nat.reduceAdd, undef]
    exact finL_ret [] ⟨rfl, rfl, rfl, rfl, _, rfl, res_mk rfl⟩
  | some n =>
    obtain ⟨n0, n1, n2, n3, rfl⟩ := len4 (hl _ rfl).1
    simp only [go_sem, Nat.reduceEqDiff, Nat.reduceAdd, undef]
    refine lend5 (sum := sumW) (a := 0) (b := 1) (c := 4) (d := 5) (e := 3) hon (by decide) rfl rfl rfl rfl rfl fun ks2 xs2 clk2 M2 => ?_
    simp only [w4, go_sem, Nat.reduceEqDiff, Nat.reduceAdd, undef]
    exact finL_ret [] ⟨rfl, rfl, rfl, rfl, _, rfl, res_mk rfl⟩
theorem fits_small {w : Wa} (hw : w.OK) : w.fits.length ≤ 4 ∧ ∀ x ∈ w.fits, x < 64 := by
  constructor
  · unfold Wa.fits; rw [List.length_map]; exact hw.nf
  · intro x hx
    obtain ⟨f, _, rfl⟩ := List.mem_map.1 hx
    have := maskW_lt (fitP w.os f) w.os.length
    have h2 : 2 ^ w.os.length ≤ 2 ^ 5 := Nat.pow_le_pow_right (by omega) hw.no
    unfold fitN
    omega
def tolO (w : Wa) : Out := if waysN w.fits = 0 then .pan (stp1 10) else .ret (.t (.agg (w4 (whoseL w.fits))))
theorem whose_small (f : List Nat) (h : waysN f ≠ 0) : W4 (whoseL f) := by
  have := tellW_ok f f.length has0 (whoseL f)
  rw [whose_eq, if_neg h] at this
  exact this rfl
set_option maxRecDepth 8000 in
theorem told_ok (w : Wa) (hw : w.OK) : ACall Tryz.prog 56 [.t (tTab w)] [] (res (tolO w)) := by
  obtain ⟨h1, h2⟩ := fits_small hw
  have ht := tellW_call w.fits h1 h2
  rw [whose_eq] at ht
  have good := @must_ok true 10
  have bad := @must_ok false 10
  refine ACall.walk k56 ?_
  unfold c56 tTab
  unfold sumW at ht
  by_cases hz : waysN w.fits = 0
  · rw [if_pos hz] at ht
    simp only [go_sem, Nat.reduceEqDiff, Nat.reduceAdd, Nat.reduceLeDiff]
    refine ACallL.fresh1 ht rfl ?_
    simp only [kWO, go_sem, Nat.reduceEqDiff, Nat.reduceAdd, undef]
    refine ACallL.quiet1 bad rfl rfl rfl ?_
    simp only [go_sem, Nat.reduceEqDiff, Nat.reduceAdd, undef]
    exact finL_pan [] ⟨rfl, rfl, rfl, rfl, res_mk (by unfold tolO; rw [if_pos hz])⟩
  · rw [if_neg hz] at ht
    have hw4 := whose_small w.fits hz
    have htol : tolO w = .ret (.t (.agg (w4 (whoseL w.fits)))) := by unfold tolO; rw [if_neg hz]
    generalize whoseL w.fits = X at *
    obtain ⟨x0, x1, x2, x3, rfl⟩ := len4 hw4.1
    simp only [go_sem, Nat.reduceEqDiff, Nat.reduceAdd, Nat.reduceLeDiff]
    refine ACallL.fresh1 ht rfl ?_
    simp only [kWO, w4, go_sem, Nat.reduceEqDiff, Nat.reduceAdd, undef]
    refine ACallL.quiet1 good rfl rfl rfl ?_
    simp only [go_sem, Nat.reduceEqDiff, Nat.reduceAdd, undef]
    exact finL_ret [] ⟨rfl, rfl, rfl, rfl, _, rfl, res_mk (by rw [htol]; rfl)⟩
end Go.Proofs.YtnmmhkkmejbckaaGreatDoor
