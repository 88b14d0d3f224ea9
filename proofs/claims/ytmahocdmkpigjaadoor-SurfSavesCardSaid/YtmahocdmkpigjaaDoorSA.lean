/- Proved here: laws that the statements need (SuC1, SuA, SuB). No conditions but those that each law states. -/
import Derived.Test.YtmahocdmkpigjaaDoorFL
import Derived.Test.YtmahocdmkpigjaaDoorProg

set_option linter.unusedSimpArgs false
set_option linter.unusedVariables false

/- Compiled code of functions, printed by program; each is checked to be the program's. No conditions. -/
namespace Go.Proofs.YtmahocdmkpigjaaDoor
open Go Go.Ab
/-- dipworks/surf.Depth -/
def c15 : AC :=
 .seq (.reg [⟨(some 3), none, .box (.tmp 0)⟩,
 ⟨(some 6), none, .alloc [(.int .i64 0), (.int .i64 0)]⟩,
 ⟨(some 7), none, .alloc [(.int .i64 0)]⟩])
 (.seq (.reg [⟨none, none, .defer 43 [(.tmp 7)]⟩])
 (.seq (.draw (.step ⟨(some 9), none, .load true 5 (.tmp 3)⟩ (
 .step ⟨(some 10), none, .load true 5 (.tmp 3)⟩ (
 .step ⟨(some 11), none, .mov (.tmp 1)⟩ (
 .ev ⟨(some 12), none, .call (.fn 45) [(.tmp 10), (.tmp 11)]⟩ [⟨(some 9), none, .load true 5 (.tmp 3)⟩] (
 .step ⟨(some 13), none, .mov (.tmp 12)⟩ (
 .step ⟨(some 14), (some (13, true)), .mov (.tmp 2)⟩ (
 .step ⟨(some 15), (some (13, true)), .faddr 0 (.tmp 3)⟩ (
 .step ⟨(some 16), (some (13, true)), .load false 1 (.tmp 15)⟩ (
 .step ⟨(some 17), (some (13, true)), .bin .sub (.tmp 16) (.lit (.int .i64 1))⟩ (
 .ev ⟨(some 18), (some (13, true)), .call (.fn 46) [(.tmp 14), (.lit (.int .i64 0)), (.tmp 17)]⟩ [⟨(some 16), (some (13, true)), .load false 1 (.tmp 15)⟩, ⟨(some 15), (some (13, true)), .faddr 0 (.tmp 3)⟩, ⟨(some 10), none, .load true 5 (.tmp 3)⟩, ⟨(some 9), none, .load true 5 (.tmp 3)⟩] (
 .step ⟨(some 19), none, .pick (.tmp 13) (.tmp 18) (.lit (.bool false))⟩ (
 .ev ⟨(some 20), none, .call (.fn 44) [(.tmp 9), (.tmp 19)]⟩ [⟨(some 16), (some (13, true)), .load false 1 (.tmp 15)⟩, ⟨(some 15), (some (13, true)), .faddr 0 (.tmp 3)⟩, ⟨(some 10), none, .load true 5 (.tmp 3)⟩] (
 .step ⟨(some 8), none, .mov (.tmp 20)⟩ (
 .done))
 (.stop)))
 (.stop)))))))
 (.stop))))))
 (.seq (.draw (.step ⟨(some 21), none, .mov (.tmp 8)⟩ (
 .step ⟨(some 22), none, .faddr 2 (.tmp 3)⟩ (
 .step ⟨(some 23), none, .load false 1 (.tmp 22)⟩ (
 .step ⟨(some 24), none, .mov (.tmp 1)⟩ (
 .step ⟨(some 25), none, .iaddr 2 (.tmp 23) (.tmp 24)⟩ (
 .step ⟨(some 26), none, .faddr 0 (.tmp 25)⟩ (
 .step ⟨(some 27), none, .load false 1 (.tmp 26)⟩ (
 .step ⟨(some 28), none, .mov (.tmp 2)⟩ (
 .step ⟨(some 30), none, .mov (.tmp 8)⟩ (
 .step ⟨(some 31), none, .faddr 2 (.tmp 3)⟩ (
 .step ⟨(some 32), none, .load false 1 (.tmp 31)⟩ (
 .step ⟨(some 33), none, .mov (.tmp 1)⟩ (
 .step ⟨(some 34), none, .iaddr 2 (.tmp 32) (.tmp 33)⟩ (
 .step ⟨(some 35), none, .faddr 1 (.tmp 34)⟩ (
 .step ⟨(some 36), none, .load false 1 (.tmp 35)⟩ (
 .step ⟨(some 37), none, .mov (.tmp 2)⟩ (
 .ev ⟨(some 29), none, .call (.fn 47) [(.tmp 21), (.tmp 27), (.tmp 28)]⟩ [⟨(some 36), none, .load false 1 (.tmp 35)⟩, ⟨(some 35), none, .faddr 1 (.tmp 34)⟩, ⟨(some 34), none, .iaddr 2 (.tmp 32) (.tmp 33)⟩, ⟨(some 32), none, .load false 1 (.tmp 31)⟩, ⟨(some 31), none, .faddr 2 (.tmp 3)⟩, ⟨(some 26), none, .faddr 0 (.tmp 25)⟩, ⟨(some 25), none, .iaddr 2 (.tmp 23) (.tmp 24)⟩, ⟨(some 23), none, .load false 1 (.tmp 22)⟩, ⟨(some 22), none, .faddr 2 (.tmp 3)⟩] (
 .ev ⟨(some 38), none, .call (.fn 47) [(.tmp 30), (.tmp 36), (.tmp 37)]⟩ [⟨(some 35), none, .faddr 1 (.tmp 34)⟩, ⟨(some 34), none, .iaddr 2 (.tmp 32) (.tmp 33)⟩, ⟨(some 32), none, .load false 1 (.tmp 31)⟩, ⟨(some 31), none, .faddr 2 (.tmp 3)⟩, ⟨(some 27), none, .load false 1 (.tmp 26)⟩, ⟨(some 26), none, .faddr 0 (.tmp 25)⟩, ⟨(some 25), none, .iaddr 2 (.tmp 23) (.tmp 24)⟩, ⟨(some 23), none, .load false 1 (.tmp 22)⟩, ⟨(some 22), none, .faddr 2 (.tmp 3)⟩] (
 .ev ⟨none, none, .store 2 (.tmp 6) (.tr (.agg [(.lit (.int .i64 0)), (.lit (.int .i64 0))]))⟩ [⟨(some 36), none, .load false 1 (.tmp 35)⟩, ⟨(some 35), none, .faddr 1 (.tmp 34)⟩, ⟨(some 34), none, .iaddr 2 (.tmp 32) (.tmp 33)⟩, ⟨(some 32), none, .load false 1 (.tmp 31)⟩, ⟨(some 31), none, .faddr 2 (.tmp 3)⟩, ⟨(some 27), none, .load false 1 (.tmp 26)⟩, ⟨(some 26), none, .faddr 0 (.tmp 25)⟩, ⟨(some 25), none, .iaddr 2 (.tmp 23) (.tmp 24)⟩, ⟨(some 23), none, .load false 1 (.tmp 22)⟩, ⟨(some 22), none, .faddr 2 (.tmp 3)⟩] (
 .step ⟨(some 39), none, .faddr 0 (.tmp 6)⟩ (
 .ev ⟨none, none, .store 1 (.tmp 39) (.tmp 29)⟩ [⟨(some 36), none, .load false 1 (.tmp 35)⟩, ⟨(some 35), none, .faddr 1 (.tmp 34)⟩, ⟨(some 34), none, .iaddr 2 (.tmp 32) (.tmp 33)⟩, ⟨(some 32), none, .load false 1 (.tmp 31)⟩, ⟨(some 31), none, .faddr 2 (.tmp 3)⟩] (
 .step ⟨(some 40), none, .faddr 1 (.tmp 6)⟩ (
 .ev ⟨none, none, .store 1 (.tmp 40) (.tmp 38)⟩ [] (
 .ev ⟨none, none, .store 1 (.tmp 7) (.lit (.int .i64 0))⟩ [] (
 .done)
 (.stop))
 (.stop)))
 (.stop)))
 (.stop))
 (.stop))
 (.stop)))))))))))))))))))
 (.ret))))
theorem k15 : FnC Tryd.prog 15 41 [6, 7] [] [.cell 6 true 2, .cell 7 false 1] c15 3 := ⟨Tryd.f15, _, Tryd.func15, rfl, by decide, rfl, by decide, by kernel_rfl, by kernel_rfl⟩
/-- dipworks/surf.Rows -/
def c17 : AC :=
 .seq (.reg [⟨(some 3), none, .box (.tmp 0)⟩,
 ⟨(some 6), none, .mov (.lit (.int .i64 0))⟩,
 ⟨(some 7), none, .mov (.lit (.bool false))⟩,
 ⟨(some 8), none, .alloc [(.int .i64 0)]⟩])
 (.seq (.reg [⟨none, none, .defer 43 [(.tmp 8)]⟩])
 (.seq (.draw (.step ⟨(some 11), none, .load true 5 (.tmp 3)⟩ (
 .step ⟨(some 12), none, .load true 5 (.tmp 3)⟩ (
 .step ⟨(some 13), none, .mov (.tmp 1)⟩ (
 .step ⟨(some 21), none, .faddr 4 (.tmp 3)⟩ (
 .step ⟨(some 22), none, .load false 1 (.tmp 21)⟩ (
 .step ⟨(some 23), none, .mov (.tmp 1)⟩ (
 .step ⟨(some 24), none, .iaddr 3 (.tmp 22) (.tmp 23)⟩ (
 .step ⟨(some 25), none, .load true 3 (.tmp 24)⟩ (
 .step ⟨(some 27), none, .mov (.tmp 2)⟩ (
 .step ⟨(some 28), none, .bin .add (.tmp 27) (.lit (.int .i64 1))⟩ (
 .ev ⟨(some 14), none, .call (.fn 52) [(.tmp 12), (.tmp 13)]⟩ [⟨(some 25), none, .load true 3 (.tmp 24)⟩, ⟨(some 24), none, .iaddr 3 (.tmp 22) (.tmp 23)⟩, ⟨(some 22), none, .load false 1 (.tmp 21)⟩, ⟨(some 21), none, .faddr 4 (.tmp 3)⟩, ⟨(some 11), none, .load true 5 (.tmp 3)⟩] (
 .step ⟨(some 15), none, .mov (.tmp 14)⟩ (
 .step ⟨(some 16), (some (15, true)), .load true 5 (.tmp 3)⟩ (
 .step ⟨(some 17), (some (15, true)), .mov (.tmp 2)⟩ (
 .ev ⟨(some 18), (some (15, true)), .call (.fn 45) [(.tmp 16), (.tmp 17)]⟩ [⟨(some 25), none, .load true 3 (.tmp 24)⟩, ⟨(some 24), none, .iaddr 3 (.tmp 22) (.tmp 23)⟩, ⟨(some 22), none, .load false 1 (.tmp 21)⟩, ⟨(some 21), none, .faddr 4 (.tmp 3)⟩, ⟨(some 12), none, .load true 5 (.tmp 3)⟩, ⟨(some 11), none, .load true 5 (.tmp 3)⟩] (
 .step ⟨(some 19), none, .pick (.tmp 15) (.tmp 18) (.lit (.bool false))⟩ (
 .ev ⟨(some 20), none, .call (.fn 44) [(.tmp 11), (.tmp 19)]⟩ [⟨(some 16), (some (15, true)), .load true 5 (.tmp 3)⟩, ⟨(some 25), none, .load true 3 (.tmp 24)⟩, ⟨(some 24), none, .iaddr 3 (.tmp 22) (.tmp 23)⟩, ⟨(some 22), none, .load false 1 (.tmp 21)⟩, ⟨(some 21), none, .faddr 4 (.tmp 3)⟩, ⟨(some 12), none, .load true 5 (.tmp 3)⟩] (
 .ev ⟨(some 26), none, .call (.fn 53) [(.tmp 20), (.tmp 25)]⟩ [⟨(some 16), (some (15, true)), .load true 5 (.tmp 3)⟩, ⟨(some 24), none, .iaddr 3 (.tmp 22) (.tmp 23)⟩, ⟨(some 22), none, .load false 1 (.tmp 21)⟩, ⟨(some 21), none, .faddr 4 (.tmp 3)⟩, ⟨(some 12), none, .load true 5 (.tmp 3)⟩, ⟨(some 11), none, .load true 5 (.tmp 3)⟩] (
 .step ⟨(some 29), none, .aidx 9 false 1 (.tmp 26) (.tmp 28)⟩ (
 .step ⟨(some 9), none, .mov (.tmp 29)⟩ (
 .done)))
 (.stop))
 (.stop)))
 (.stop)))))
 (.stop)))))))))))))
 (.seq (.reg [⟨(some 30), none, .mov (.tmp 9)⟩,
 ⟨(some 31), none, .mkfn (.func 54) [(.tmp 30)] []⟩,
 ⟨(some 10), none, .mov (.tmp 31)⟩])
 (.seq (.reg [⟨(some 32), none, .mov (.tmp 9)⟩,
 ⟨(some 33), none, .call (.fn 55) [(.tmp 32)]⟩,
 ⟨(some 34), none, .mov (.tmp 10)⟩,
 ⟨(some 35), none, .call (.tmp 34) []⟩,
 ⟨(some 6), none, .mov (.tmp 33)⟩,
 ⟨(some 7), none, .mov (.tmp 35)⟩,
 ⟨none, none, .store 1 (.tmp 8) (.lit (.int .i64 0))⟩])
 (.ret)))))
theorem k17 : FnC Tryd.prog 17 36 [6, 7, 8] [] [.tmp 6, .tmp 7, .cell 8 false 1] c17 3 := ⟨Tryd.f17, _, Tryd.func17, rfl, by decide, rfl, by decide, by kernel_rfl, by kernel_rfl⟩
/-- dipworks/surf.Floats -/
def c19 : AC :=
 .seq (.reg [⟨(some 2), none, .box (.tmp 0)⟩,
 ⟨(some 4), none, .mov (.lit (.int .i64 0))⟩,
 ⟨(some 5), none, .mov (.lit (.int .i64 0))⟩,
 ⟨(some 6), none, .alloc [(.int .i64 0)]⟩])
 (.seq (.reg [⟨none, none, .defer 43 [(.tmp 6)]⟩])
 (.seq (.reg [⟨(some 7), none, .mov (.lit (.int .i64 0))⟩,
 ⟨(some 8), none, .mov (.lit (.int .i64 0))⟩])
 (.seq (.seq (.draw (.step ⟨(some 11), none, .load true 5 (.tmp 2)⟩ (
 .step ⟨(some 12), none, .load true 5 (.tmp 2)⟩ (
 .step ⟨(some 13), none, .mov (.tmp 1)⟩ (
 .step ⟨(some 16), none, .faddr 4 (.tmp 2)⟩ (
 .step ⟨(some 17), none, .load false 1 (.tmp 16)⟩ (
 .step ⟨(some 18), none, .mov (.tmp 1)⟩ (
 .step ⟨(some 19), none, .iaddr 3 (.tmp 17) (.tmp 18)⟩ (
 .step ⟨(some 20), none, .load true 3 (.tmp 19)⟩ (
 .step ⟨(some 23), none, .mov (.lit (.int .i64 0))⟩ (
 .ev ⟨(some 14), none, .call (.fn 52) [(.tmp 12), (.tmp 13)]⟩ [⟨(some 20), none, .load true 3 (.tmp 19)⟩, ⟨(some 19), none, .iaddr 3 (.tmp 17) (.tmp 18)⟩, ⟨(some 17), none, .load false 1 (.tmp 16)⟩, ⟨(some 16), none, .faddr 4 (.tmp 2)⟩, ⟨(some 11), none, .load true 5 (.tmp 2)⟩] (
 .ev ⟨(some 15), none, .call (.fn 44) [(.tmp 11), (.tmp 14)]⟩ [⟨(some 20), none, .load true 3 (.tmp 19)⟩, ⟨(some 19), none, .iaddr 3 (.tmp 17) (.tmp 18)⟩, ⟨(some 17), none, .load false 1 (.tmp 16)⟩, ⟨(some 16), none, .faddr 4 (.tmp 2)⟩, ⟨(some 12), none, .load true 5 (.tmp 2)⟩] (
 .ev ⟨(some 21), none, .call (.fn 59) [(.tmp 15), (.tmp 20)]⟩ [⟨(some 19), none, .iaddr 3 (.tmp 17) (.tmp 18)⟩, ⟨(some 17), none, .load false 1 (.tmp 16)⟩, ⟨(some 16), none, .faddr 4 (.tmp 2)⟩, ⟨(some 12), none, .load true 5 (.tmp 2)⟩, ⟨(some 11), none, .load true 5 (.tmp 2)⟩] (
 .step ⟨(some 22), none, .len (.tmp 21)⟩ (
 .done))
 (.stop))
 (.stop))
 (.stop))))))))))))
 (.block 0 (.loop (.seq (.reg [⟨(some 24), none, .bin .lss (.tmp 23) (.tmp 22)⟩])
 (.seq (.cond (.tmp 24) (.skip)
 (.exit 0))
 (.seq (.block 1 (.seq (.reg [⟨(some 25), none, .mov (.tmp 23)⟩,
 ⟨(some 26), none, .iaddr 2 (.tmp 21) (.tmp 23)⟩,
 ⟨(some 27), none, .load true 2 (.tmp 26)⟩,
 ⟨(some 10), none, .alloc [(.bool false), (.bool false)]⟩,
 ⟨(some 9), none, .mov (.tmp 25)⟩,
 ⟨none, none, .store 2 (.tmp 10) (.tmp 27)⟩])
 (.seq (.seq (.reg [⟨(some 28), none, .faddr 0 (.tmp 10)⟩,
 ⟨(some 29), none, .load false 1 (.tmp 28)⟩])
 (.cond (.tmp 29) (.reg [⟨(some 30), none, .mov (.tmp 8)⟩,
 ⟨(some 31), none, .mov (.tmp 9)⟩,
 ⟨(some 32), none, .bin .shl (.lit (.int .i64 1)) (.tmp 31)⟩,
 ⟨(some 33), none, .bin .or (.tmp 30) (.tmp 32)⟩,
 ⟨(some 8), none, .mov (.tmp 33)⟩])
 (.skip)))
 (.seq (.reg [⟨(some 34), none, .faddr 1 (.tmp 10)⟩,
 ⟨(some 35), none, .load false 1 (.tmp 34)⟩,
 ⟨(some 36), none, .un .not (.tmp 35)⟩])
 (.cond (.tmp 36) (.reg [⟨(some 37), none, .mov (.tmp 7)⟩,
 ⟨(some 38), none, .mov (.tmp 9)⟩,
 ⟨(some 39), none, .bin .shl (.lit (.int .i64 1)) (.tmp 38)⟩,
 ⟨(some 40), none, .bin .or (.tmp 37) (.tmp 39)⟩,
 ⟨(some 7), none, .mov (.tmp 40)⟩])
 (.skip))))))
 (.reg [⟨(some 41), none, .bin .add (.tmp 23) (.lit (.int .i64 1))⟩,
 ⟨(some 23), none, .mov (.tmp 41)⟩])))))))
 (.seq (.reg [⟨(some 42), none, .mov (.tmp 7)⟩,
 ⟨(some 43), none, .mov (.tmp 8)⟩,
 ⟨(some 4), none, .mov (.tmp 42)⟩,
 ⟨(some 5), none, .mov (.tmp 43)⟩,
 ⟨none, none, .store 1 (.tmp 6) (.lit (.int .i64 0))⟩])
 (.ret)))))
theorem k19 : FnC Tryd.prog 19 44 [4, 5, 6] [] [.tmp 4, .tmp 5, .cell 6 false 1] c19 2 := ⟨Tryd.f19, _, Tryd.func19, rfl, by decide, rfl, by decide, by kernel_rfl, by kernel_rfl⟩
/-- dipworks/surf.Lost -/
def c21 : AC :=
 .seq (.reg [⟨(some 2), none, .box (.tmp 0)⟩,
 ⟨(some 4), none, .mov (.lit (.int .i64 0))⟩,
 ⟨(some 5), none, .alloc [(.int .i64 0)]⟩])
 (.seq (.reg [⟨none, none, .defer 43 [(.tmp 5)]⟩])
 (.seq (.reg [⟨(some 6), none, .mov (.fn 55)⟩])
 (.seq (.seq (.draw (.step ⟨(some 8), none, .load true 5 (.tmp 2)⟩ (
 .step ⟨(some 9), none, .load true 5 (.tmp 2)⟩ (
 .step ⟨(some 10), none, .mov (.tmp 1)⟩ (
 .step ⟨(some 13), none, .faddr 4 (.tmp 2)⟩ (
 .step ⟨(some 14), none, .load false 1 (.tmp 13)⟩ (
 .step ⟨(some 15), none, .mov (.tmp 1)⟩ (
 .step ⟨(some 16), none, .iaddr 3 (.tmp 14) (.tmp 15)⟩ (
 .step ⟨(some 17), none, .load true 3 (.tmp 16)⟩ (
 .step ⟨(some 19), none, .faddr 2 (.tmp 2)⟩ (
 .step ⟨(some 20), none, .load false 1 (.tmp 19)⟩ (
 .step ⟨(some 21), none, .len (.tmp 20)⟩ (
 .ev ⟨(some 11), none, .call (.fn 52) [(.tmp 9), (.tmp 10)]⟩ [⟨(some 21), none, .len (.tmp 20)⟩, ⟨(some 20), none, .load false 1 (.tmp 19)⟩, ⟨(some 19), none, .faddr 2 (.tmp 2)⟩, ⟨(some 17), none, .load true 3 (.tmp 16)⟩, ⟨(some 16), none, .iaddr 3 (.tmp 14) (.tmp 15)⟩, ⟨(some 14), none, .load false 1 (.tmp 13)⟩, ⟨(some 13), none, .faddr 4 (.tmp 2)⟩, ⟨(some 8), none, .load true 5 (.tmp 2)⟩] (
 .ev ⟨(some 12), none, .call (.fn 44) [(.tmp 8), (.tmp 11)]⟩ [⟨(some 21), none, .len (.tmp 20)⟩, ⟨(some 20), none, .load false 1 (.tmp 19)⟩, ⟨(some 19), none, .faddr 2 (.tmp 2)⟩, ⟨(some 17), none, .load true 3 (.tmp 16)⟩, ⟨(some 16), none, .iaddr 3 (.tmp 14) (.tmp 15)⟩, ⟨(some 14), none, .load false 1 (.tmp 13)⟩, ⟨(some 13), none, .faddr 4 (.tmp 2)⟩, ⟨(some 9), none, .load true 5 (.tmp 2)⟩] (
 .ev ⟨(some 18), none, .call (.fn 53) [(.tmp 12), (.tmp 17)]⟩ [⟨(some 21), none, .len (.tmp 20)⟩, ⟨(some 20), none, .load false 1 (.tmp 19)⟩, ⟨(some 19), none, .faddr 2 (.tmp 2)⟩, ⟨(some 16), none, .iaddr 3 (.tmp 14) (.tmp 15)⟩, ⟨(some 14), none, .load false 1 (.tmp 13)⟩, ⟨(some 13), none, .faddr 4 (.tmp 2)⟩, ⟨(some 9), none, .load true 5 (.tmp 2)⟩, ⟨(some 8), none, .load true 5 (.tmp 2)⟩] (
 .step ⟨(some 22), none, .aidx 9 false 1 (.tmp 18) (.tmp 21)⟩ (
 .step ⟨(some 7), none, .mov (.tmp 22)⟩ (
 .done)))
 (.stop))
 (.stop))
 (.stop))))))))))))))
 (.block 0 (.seq (.reg [⟨(some 24), none, .mov (.tmp 7)⟩,
 ⟨(some 25), none, .call (.fn 54) [(.tmp 24)]⟩,
 ⟨(some 26), none, .un .not (.tmp 25)⟩,
 ⟨(some 23), none, .mov (.tmp 26)⟩])
 (.cond (.tmp 23) (.seq (.reg [⟨(some 4), none, .mov (.lit (.int .i64 0))⟩,
 ⟨none, none, .store 1 (.tmp 5) (.lit (.int .i64 0))⟩])
 (.ret))
 (.seq (.reg [⟨(some 28), none, .mov (.tmp 6)⟩,
 ⟨(some 29), none, .mov (.tmp 7)⟩,
 ⟨(some 30), none, .call (.tmp 28) [(.tmp 29)]⟩,
 ⟨(some 31), none, .bin .eql (.tmp 30) (.lit (.int .i64 0))⟩,
 ⟨(some 27), none, .mov (.tmp 31)⟩])
 (.cond (.tmp 27) (.seq (.reg [⟨(some 4), none, .mov (.lit (.int .i64 2))⟩,
 ⟨none, none, .store 1 (.tmp 5) (.lit (.int .i64 0))⟩])
 (.ret))
 (.skip)))))))
 (.seq (.reg [⟨(some 4), none, .mov (.lit (.int .i64 1))⟩,
 ⟨none, none, .store 1 (.tmp 5) (.lit (.int .i64 0))⟩])
 (.ret)))))
theorem k21 : FnC Tryd.prog 21 32 [4, 5] [] [.tmp 4, .cell 5 false 1] c21 2 := ⟨Tryd.f21, _, Tryd.func21, rfl, by decide, rfl, by decide, by kernel_rfl, by kernel_rfl⟩
/-- dipworks/surf.Before -/
def c23 : AC :=
 .seq (.reg [⟨(some 2), none, .box (.tmp 0)⟩,
 ⟨(some 4), none, .mov (.lit (.int .i64 0))⟩,
 ⟨(some 5), none, .alloc [(.int .i64 0)]⟩])
 (.seq (.reg [⟨none, none, .defer 43 [(.tmp 5)]⟩])
 (.seq (.draw (.step ⟨(some 7), none, .load true 5 (.tmp 2)⟩ (
 .step ⟨(some 8), none, .load true 5 (.tmp 2)⟩ (
 .step ⟨(some 9), none, .mov (.tmp 1)⟩ (
 .step ⟨(some 12), none, .faddr 4 (.tmp 2)⟩ (
 .step ⟨(some 13), none, .load false 1 (.tmp 12)⟩ (
 .step ⟨(some 14), none, .mov (.tmp 1)⟩ (
 .step ⟨(some 15), none, .iaddr 3 (.tmp 13) (.tmp 14)⟩ (
 .step ⟨(some 16), none, .load true 3 (.tmp 15)⟩ (
 .ev ⟨(some 10), none, .call (.fn 52) [(.tmp 8), (.tmp 9)]⟩ [⟨(some 16), none, .load true 3 (.tmp 15)⟩, ⟨(some 15), none, .iaddr 3 (.tmp 13) (.tmp 14)⟩, ⟨(some 13), none, .load false 1 (.tmp 12)⟩, ⟨(some 12), none, .faddr 4 (.tmp 2)⟩, ⟨(some 7), none, .load true 5 (.tmp 2)⟩] (
 .ev ⟨(some 11), none, .call (.fn 44) [(.tmp 7), (.tmp 10)]⟩ [⟨(some 16), none, .load true 3 (.tmp 15)⟩, ⟨(some 15), none, .iaddr 3 (.tmp 13) (.tmp 14)⟩, ⟨(some 13), none, .load false 1 (.tmp 12)⟩, ⟨(some 12), none, .faddr 4 (.tmp 2)⟩, ⟨(some 8), none, .load true 5 (.tmp 2)⟩] (
 .ev ⟨(some 17), none, .call (.fn 62) [(.tmp 11), (.tmp 16)]⟩ [⟨(some 15), none, .iaddr 3 (.tmp 13) (.tmp 14)⟩, ⟨(some 13), none, .load false 1 (.tmp 12)⟩, ⟨(some 12), none, .faddr 4 (.tmp 2)⟩, ⟨(some 8), none, .load true 5 (.tmp 2)⟩, ⟨(some 7), none, .load true 5 (.tmp 2)⟩] (
 .step ⟨(some 6), none, .mov (.tmp 17)⟩ (
 .done))
 (.stop))
 (.stop))
 (.stop)))))))))))
 (.seq (.reg [⟨(some 18), none, .mov (.tmp 6)⟩,
 ⟨(some 19), none, .bin .geq (.tmp 18) (.lit (.int .i64 0))⟩,
 ⟨(some 20), none, .call (.fn 63) [(.tmp 19), (.lit (.int .i64 4))]⟩])
 (.seq (.reg [⟨(some 21), none, .mov (.tmp 6)⟩,
 ⟨(some 4), none, .mov (.tmp 21)⟩,
 ⟨none, none, .store 1 (.tmp 5) (.lit (.int .i64 0))⟩])
 (.ret)))))
theorem k23 : FnC Tryd.prog 23 22 [4, 5] [] [.tmp 4, .cell 5 false 1] c23 2 := ⟨Tryd.f23, _, Tryd.func23, rfl, by decide, rfl, by decide, by kernel_rfl, by kernel_rfl⟩
/-- dipworks/surf.Brake -/
def c25 : AC :=
 .seq (.reg [⟨(some 2), none, .box (.tmp 0)⟩,
 ⟨(some 4), none, .mov (.lit (.int .i64 0))⟩,
 ⟨(some 5), none, .alloc [(.int .i64 0)]⟩])
 (.seq (.reg [⟨none, none, .defer 43 [(.tmp 5)]⟩])
 (.seq (.draw (.step ⟨(some 7), none, .load true 5 (.tmp 2)⟩ (
 .step ⟨(some 8), none, .load true 5 (.tmp 2)⟩ (
 .step ⟨(some 9), none, .mov (.tmp 1)⟩ (
 .ev ⟨(some 10), none, .call (.fn 52) [(.tmp 8), (.tmp 9)]⟩ [⟨(some 7), none, .load true 5 (.tmp 2)⟩] (
 .ev ⟨(some 11), none, .call (.fn 44) [(.tmp 7), (.tmp 10)]⟩ [⟨(some 8), none, .load true 5 (.tmp 2)⟩] (
 .ev ⟨(some 6), none, .alloc [(.pointer none)]⟩ [⟨(some 8), none, .load true 5 (.tmp 2)⟩, ⟨(some 7), none, .load true 5 (.tmp 2)⟩] (
 .ev ⟨none, none, .store 1 (.tmp 6) (.tmp 11)⟩ [] (
 .done)
 (.stop))
 (.stop))
 (.ev ⟨(some 6), none, .alloc [(.pointer none)]⟩ [⟨(some 8), none, .load true 5 (.tmp 2)⟩, ⟨(some 7), none, .load true 5 (.tmp 2)⟩] (
 .ev ⟨(some 11), none, .call (.fn 44) [(.tmp 7), (.tmp 10)]⟩ [⟨(some 8), none, .load true 5 (.tmp 2)⟩] (
 .ev ⟨none, none, .store 1 (.tmp 6) (.tmp 11)⟩ [] (
 .done)
 (.stop))
 (.stop))
 (.stop)))
 (.ev ⟨(some 6), none, .alloc [(.pointer none)]⟩ [⟨(some 8), none, .load true 5 (.tmp 2)⟩, ⟨(some 7), none, .load true 5 (.tmp 2)⟩] (
 .ev ⟨(some 10), none, .call (.fn 52) [(.tmp 8), (.tmp 9)]⟩ [⟨(some 7), none, .load true 5 (.tmp 2)⟩] (
 .ev ⟨(some 11), none, .call (.fn 44) [(.tmp 7), (.tmp 10)]⟩ [⟨(some 8), none, .load true 5 (.tmp 2)⟩] (
 .ev ⟨none, none, .store 1 (.tmp 6) (.tmp 11)⟩ [] (
 .done)
 (.stop))
 (.stop))
 (.stop))
 (.stop)))))))
 (.seq (.seq (.gcp)
 (.reg [⟨(some 12), none, .faddr 4 (.tmp 2)⟩,
 ⟨(some 13), none, .load false 1 (.tmp 12)⟩,
 ⟨(some 14), none, .mov (.tmp 1)⟩,
 ⟨(some 15), none, .iaddr 3 (.tmp 13) (.tmp 14)⟩,
 ⟨(some 16), none, .load true 3 (.tmp 15)⟩,
 ⟨(some 17), none, .mkfn (.func 67) [] [(.tmp 6), (.tmp 2)]⟩,
 ⟨(some 18), none, .build [.nilFunc, .nilFunc] [(0, 1, (.fn 66)), (1, 1, (.tmp 17))]⟩,
 ⟨(some 19), none, .call (.fn 65) [(.tmp 16), (.lit (.int .i64 10)), (.tmp 18)]⟩,
 ⟨(some 4), none, .mov (.tmp 19)⟩,
 ⟨none, none, .store 1 (.tmp 5) (.lit (.int .i64 0))⟩]))
 (.ret))))
theorem k25 : FnC Tryd.prog 25 20 [4, 5] [3] [.tmp 4, .cell 5 false 1] c25 2 := ⟨Tryd.f25, _, Tryd.func25, rfl, by decide, rfl, by decide, by kernel_rfl, by kernel_rfl⟩
/-- dipworks/surf.Floor -/
def c27 : AC :=
 .seq (.reg [⟨(some 2), none, .box (.tmp 0)⟩,
 ⟨(some 4), none, .mov (.lit (.int .i64 0))⟩,
 ⟨(some 5), none, .alloc [(.int .i64 0)]⟩])
 (.seq (.reg [⟨none, none, .defer 43 [(.tmp 5)]⟩])
 (.seq (.draw (.step ⟨(some 7), none, .load true 5 (.tmp 2)⟩ (
 .step ⟨(some 8), none, .load true 5 (.tmp 2)⟩ (
 .step ⟨(some 9), none, .mov (.tmp 1)⟩ (
 .ev ⟨(some 10), none, .call (.fn 52) [(.tmp 8), (.tmp 9)]⟩ [⟨(some 7), none, .load true 5 (.tmp 2)⟩] (
 .ev ⟨(some 11), none, .call (.fn 44) [(.tmp 7), (.tmp 10)]⟩ [⟨(some 8), none, .load true 5 (.tmp 2)⟩] (
 .ev ⟨(some 6), none, .alloc [(.pointer none)]⟩ [⟨(some 8), none, .load true 5 (.tmp 2)⟩, ⟨(some 7), none, .load true 5 (.tmp 2)⟩] (
 .ev ⟨none, none, .store 1 (.tmp 6) (.tmp 11)⟩ [] (
 .done)
 (.stop))
 (.stop))
 (.ev ⟨(some 6), none, .alloc [(.pointer none)]⟩ [⟨(some 8), none, .load true 5 (.tmp 2)⟩, ⟨(some 7), none, .load true 5 (.tmp 2)⟩] (
 .ev ⟨(some 11), none, .call (.fn 44) [(.tmp 7), (.tmp 10)]⟩ [⟨(some 8), none, .load true 5 (.tmp 2)⟩] (
 .ev ⟨none, none, .store 1 (.tmp 6) (.tmp 11)⟩ [] (
 .done)
 (.stop))
 (.stop))
 (.stop)))
 (.ev ⟨(some 6), none, .alloc [(.pointer none)]⟩ [⟨(some 8), none, .load true 5 (.tmp 2)⟩, ⟨(some 7), none, .load true 5 (.tmp 2)⟩] (
 .ev ⟨(some 10), none, .call (.fn 52) [(.tmp 8), (.tmp 9)]⟩ [⟨(some 7), none, .load true 5 (.tmp 2)⟩] (
 .ev ⟨(some 11), none, .call (.fn 44) [(.tmp 7), (.tmp 10)]⟩ [⟨(some 8), none, .load true 5 (.tmp 2)⟩] (
 .ev ⟨none, none, .store 1 (.tmp 6) (.tmp 11)⟩ [] (
 .done)
 (.stop))
 (.stop))
 (.stop))
 (.stop)))))))
 (.seq (.seq (.gcp)
 (.reg [⟨(some 12), none, .faddr 4 (.tmp 2)⟩,
 ⟨(some 13), none, .load false 1 (.tmp 12)⟩,
 ⟨(some 14), none, .mov (.tmp 1)⟩,
 ⟨(some 15), none, .iaddr 3 (.tmp 13) (.tmp 14)⟩,
 ⟨(some 16), none, .load true 3 (.tmp 15)⟩,
 ⟨(some 17), none, .mkfn (.func 70) [] [(.tmp 6)]⟩,
 ⟨(some 18), none, .build [.nilFunc, .nilFunc] [(0, 1, (.fn 69)), (1, 1, (.tmp 17))]⟩,
 ⟨(some 19), none, .call (.fn 65) [(.tmp 16), (.lit (.int .i64 40)), (.tmp 18)]⟩,
 ⟨(some 4), none, .mov (.tmp 19)⟩,
 ⟨none, none, .store 1 (.tmp 5) (.lit (.int .i64 0))⟩]))
 (.ret))))
theorem k27 : FnC Tryd.prog 27 20 [4, 5] [3] [.tmp 4, .cell 5 false 1] c27 2 := ⟨Tryd.f27, _, Tryd.func27, rfl, by decide, rfl, by decide, by kernel_rfl, by kernel_rfl⟩
/-- dipworks/surf.answer -/
def c43 : AC :=
 .seq (.reg [⟨(some 6), none, .mov (.tmp 2)⟩,
 ⟨(some 7), none, .nilcmp true (.tmp 6)⟩])
 (.cond (.tmp 7) (.seq (.reg [⟨(some 9), none, .mov (.tmp 2)⟩,
 ⟨(some 10), none, .tass 111 true (.tmp 9)⟩,
 ⟨(some 8), none, .mov (.tmp 10)⟩,
 ⟨(some 11), none, .ext (.tmp 8) 0⟩,
 ⟨(some 12), none, .ext (.tmp 8) 1⟩,
 ⟨(some 3), none, .mov (.tmp 11)⟩,
 ⟨(some 4), none, .mov (.tmp 12)⟩])
 (.seq (.seq (.reg [⟨(some 13), none, .mov (.tmp 4)⟩,
 ⟨(some 14), none, .un .not (.tmp 13)⟩])
 (.cond (.tmp 14) (.reg [⟨(some 15), none, .mov (.tmp 2)⟩,
 ⟨none, none, .pan (.tmp 15)⟩])
 (.skip)))
 (.reg [⟨(some 16), none, .mov (.tmp 0)⟩,
 ⟨(some 17), none, .mov (.tmp 3)⟩,
 ⟨(some 18), none, .nilck (.tmp 16)⟩,
 ⟨none, none, .store 1 (.tmp 18) (.tmp 17)⟩])))
 (.skip))
theorem a43 : FnA Tryd.prog 43 19 5 2 c43 1 := ⟨Tryd.f43, _, _, _, _, _, Tryd.func43, rfl, by decide, rfl, by decide, rfl, rfl, rfl, rfl, rfl, rfl, rfl, by decide, by decide, by kernel_rfl⟩
/-- dipworks/surf.open -/
def c44 : AC :=
 .seq (.reg [⟨(some 2), none, .box (.tmp 0)⟩,
 ⟨(some 4), none, .mov (.lit (.pointer none))⟩])
 (.seq (.reg [⟨(some 10), none, .faddr 0 (.tmp 2)⟩,
 ⟨(some 11), none, .load false 1 (.tmp 10)⟩,
 ⟨(some 12), none, .call (.fn 46) [(.tmp 11), (.lit (.int .i64 1)), (.lit (.int .i64 6))]⟩,
 ⟨(some 13), none, .mov (.tmp 12)⟩,
 ⟨(some 14), (some (13, true)), .faddr 1 (.tmp 2)⟩,
 ⟨(some 15), (some (13, true)), .load false 1 (.tmp 14)⟩,
 ⟨(some 16), (some (13, true)), .call (.fn 46) [(.tmp 15), (.lit (.int .i64 0)), (.lit (.int .i64 4))]⟩,
 ⟨(some 17), none, .pick (.tmp 13) (.tmp 16) (.lit (.bool false))⟩,
 ⟨(some 18), none, .mov (.tmp 17)⟩,
 ⟨(some 19), (some (18, true)), .faddr 2 (.tmp 2)⟩,
 ⟨(some 20), (some (18, true)), .load false 1 (.tmp 19)⟩,
 ⟨(some 21), (some (18, true)), .len (.tmp 20)⟩,
 ⟨(some 22), (some (18, true)), .bin .leq (.tmp 21) (.lit (.int .i64 8))⟩,
 ⟨(some 23), none, .pick (.tmp 18) (.tmp 22) (.lit (.bool false))⟩,
 ⟨(some 24), none, .mov (.tmp 23)⟩,
 ⟨(some 25), (some (24, true)), .faddr 3 (.tmp 2)⟩,
 ⟨(some 26), (some (24, true)), .load false 1 (.tmp 25)⟩,
 ⟨(some 27), (some (24, true)), .len (.tmp 26)⟩,
 ⟨(some 28), (some (24, true)), .faddr 2 (.tmp 2)⟩,
 ⟨(some 29), (some (24, true)), .load false 1 (.tmp 28)⟩,
 ⟨(some 30), (some (24, true)), .len (.tmp 29)⟩,
 ⟨(some 31), (some (24, true)), .bin .eql (.tmp 27) (.tmp 30)⟩,
 ⟨(some 32), none, .pick (.tmp 24) (.tmp 31) (.lit (.bool false))⟩,
 ⟨(some 33), none, .mov (.tmp 32)⟩,
 ⟨(some 34), (some (33, true)), .faddr 4 (.tmp 2)⟩,
 ⟨(some 35), (some (33, true)), .load false 1 (.tmp 34)⟩,
 ⟨(some 36), (some (33, true)), .len (.tmp 35)⟩,
 ⟨(some 37), (some (33, true)), .bin .leq (.tmp 36) (.lit (.int .i64 5))⟩,
 ⟨(some 38), none, .pick (.tmp 33) (.tmp 37) (.lit (.bool false))⟩,
 ⟨(some 39), none, .call (.fn 63) [(.tmp 38), (.lit (.int .i64 1))]⟩])
 (.seq (.reg [⟨(some 5), none, .mov (.fn 78)⟩])
 (.seq (.seq (.reg [⟨(some 40), none, .faddr 2 (.tmp 2)⟩,
 ⟨(some 41), none, .load false 1 (.tmp 40)⟩,
 ⟨(some 42), none, .len (.tmp 41)⟩,
 ⟨(some 43), none, .mov (.lit (.int .i64 0))⟩])
 (.block 0 (.loop (.seq (.reg [⟨(some 44), none, .bin .lss (.tmp 43) (.tmp 42)⟩])
 (.seq (.cond (.tmp 44) (.skip)
 (.exit 0))
 (.seq (.block 1 (.seq (.reg [⟨(some 45), none, .mov (.tmp 43)⟩,
 ⟨(some 46), none, .iaddr 2 (.tmp 41) (.tmp 43)⟩,
 ⟨(some 47), none, .load true 2 (.tmp 46)⟩,
 ⟨(some 7), none, .alloc [(.int .i64 0), (.int .i64 0)]⟩,
 ⟨(some 6), none, .mov (.tmp 45)⟩,
 ⟨none, none, .store 2 (.tmp 7) (.tmp 47)⟩])
 (.reg [⟨(some 48), none, .mov (.tmp 5)⟩,
 ⟨(some 49), none, .load true 2 (.tmp 7)⟩,
 ⟨(some 50), none, .call (.tmp 48) [(.tmp 49), (.lit (.int .i64 30))]⟩,
 ⟨(some 51), none, .mov (.tmp 50)⟩,
 ⟨(some 52), (some (51, true)), .mov (.tmp 5)⟩,
 ⟨(some 53), (some (51, true)), .faddr 3 (.tmp 2)⟩,
 ⟨(some 54), (some (51, true)), .load false 1 (.tmp 53)⟩,
 ⟨(some 55), (some (51, true)), .mov (.tmp 6)⟩,
 ⟨(some 56), (some (51, true)), .iaddr 2 (.tmp 54) (.tmp 55)⟩,
 ⟨(some 57), (some (51, true)), .load true 2 (.tmp 56)⟩,
 ⟨(some 58), (some (51, true)), .call (.tmp 52) [(.tmp 57), (.lit (.int .i64 10))]⟩,
 ⟨(some 59), none, .pick (.tmp 51) (.tmp 58) (.lit (.bool false))⟩,
 ⟨(some 60), none, .call (.fn 63) [(.tmp 59), (.lit (.int .i64 1))]⟩])))
 (.reg [⟨(some 61), none, .bin .add (.tmp 43) (.lit (.int .i64 1))⟩,
 ⟨(some 43), none, .mov (.tmp 61)⟩])))))))
 (.seq (.seq (.reg [⟨(some 62), none, .faddr 4 (.tmp 2)⟩,
 ⟨(some 63), none, .load false 1 (.tmp 62)⟩,
 ⟨(some 64), none, .len (.tmp 63)⟩,
 ⟨(some 65), none, .mov (.lit (.int .i64 0))⟩])
 (.block 2 (.loop (.seq (.reg [⟨(some 66), none, .bin .lss (.tmp 65) (.tmp 64)⟩])
 (.seq (.cond (.tmp 66) (.skip)
 (.exit 2))
 (.seq (.block 3 (.seq (.reg [⟨(some 67), none, .iaddr 3 (.tmp 63) (.tmp 65)⟩,
 ⟨(some 68), none, .load true 3 (.tmp 67)⟩,
 ⟨(some 9), none, .alloc [(.int .i64 0), (.int .i64 0), (.int .i64 0)]⟩,
 ⟨none, none, .store 3 (.tmp 9) (.tmp 68)⟩])
 (.reg [⟨(some 69), none, .faddr 0 (.tmp 9)⟩,
 ⟨(some 70), none, .load false 1 (.tmp 69)⟩,
 ⟨(some 71), none, .call (.fn 46) [(.tmp 70), (.lit (.int .i64 0)), (.lit (.int .i64 40))]⟩,
 ⟨(some 72), none, .mov (.tmp 71)⟩,
 ⟨(some 73), (some (72, true)), .faddr 1 (.tmp 9)⟩,
 ⟨(some 74), (some (72, true)), .load false 1 (.tmp 73)⟩,
 ⟨(some 75), (some (72, true)), .call (.fn 46) [(.tmp 74), (.lit (.int .i64 0)), (.lit (.int .i64 10))]⟩,
 ⟨(some 76), none, .pick (.tmp 72) (.tmp 75) (.lit (.bool false))⟩,
 ⟨(some 77), none, .mov (.tmp 76)⟩,
 ⟨(some 78), (some (77, true)), .faddr 2 (.tmp 9)⟩,
 ⟨(some 79), (some (77, true)), .load false 1 (.tmp 78)⟩,
 ⟨(some 80), (some (77, true)), .faddr 0 (.tmp 2)⟩,
 ⟨(some 81), (some (77, true)), .load false 1 (.tmp 80)⟩,
 ⟨(some 82), (some (77, true)), .bin .sub (.tmp 81) (.lit (.int .i64 1))⟩,
 ⟨(some 83), (some (77, true)), .call (.fn 46) [(.tmp 79), (.lit (.int .i64 0)), (.tmp 82)]⟩,
 ⟨(some 84), none, .pick (.tmp 77) (.tmp 83) (.lit (.bool false))⟩,
 ⟨(some 85), none, .call (.fn 63) [(.tmp 84), (.lit (.int .i64 1))]⟩])))
 (.reg [⟨(some 86), none, .bin .add (.tmp 65) (.lit (.int .i64 1))⟩,
 ⟨(some 65), none, .mov (.tmp 86)⟩])))))))
 (.seq (.reg [⟨(some 87), none, .mov (.tmp 1)⟩,
 ⟨(some 88), none, .call (.fn 63) [(.tmp 87), (.lit (.int .i64 2))]⟩])
 (.seq (.reg [⟨(some 89), none, .load true 5 (.tmp 2)⟩,
 ⟨(some 90), none, .mkmap (some [(some .i64), (some .i64), (some .i64), (some .i64), (some .i64), (some .u64)], none)⟩,
 ⟨(some 91), none, .build [(.int .i64 0), (.int .i64 0), (.slice none 0 0), (.slice none 0 0), (.slice none 0 0), (.map none)] [(0, 5, (.tmp 89)), (5, 1, (.tmp 90))]⟩,
 ⟨(some 92), none, .box (.tmp 91)⟩,
 ⟨(some 4), none, .mov (.tmp 92)⟩])
 (.ret)))))))
theorem k44 : FnC Tryd.prog 44 93 [] [] [.tmp 4] c44 2 := ⟨Tryd.f44, _, Tryd.func44, rfl, by decide, rfl, by decide, by kernel_rfl, by kernel_rfl⟩
/-- dipworks/surf.isHour -/
def c45 : AC :=
 .seq (.reg [⟨(some 2), none, .box (.tmp 0)⟩,
 ⟨(some 4), none, .mov (.lit (.bool false))⟩])
 (.seq (.reg [⟨(some 5), none, .mov (.tmp 1)⟩,
 ⟨(some 6), none, .faddr 2 (.tmp 2)⟩,
 ⟨(some 7), none, .load false 1 (.tmp 6)⟩,
 ⟨(some 8), none, .len (.tmp 7)⟩,
 ⟨(some 9), none, .bin .sub (.tmp 8) (.lit (.int .i64 1))⟩,
 ⟨(some 10), none, .call (.fn 46) [(.tmp 5), (.lit (.int .i64 0)), (.tmp 9)]⟩,
 ⟨(some 4), none, .mov (.tmp 10)⟩])
 (.ret))
theorem k45 : FnC Tryd.prog 45 11 [] [] [.tmp 4] c45 2 := ⟨Tryd.f45, _, Tryd.func45, rfl, by decide, rfl, by decide, by kernel_rfl, by kernel_rfl⟩
/-- dipworks/surf.within -/
def c46 : AC :=
 .seq (.reg [⟨(some 6), none, .mov (.lit (.bool false))⟩])
 (.seq (.reg [⟨(some 7), none, .mov (.tmp 1)⟩,
 ⟨(some 8), none, .mov (.tmp 0)⟩,
 ⟨(some 9), none, .bin .leq (.tmp 7) (.tmp 8)⟩,
 ⟨(some 10), none, .mov (.tmp 9)⟩,
 ⟨(some 11), (some (10, true)), .mov (.tmp 0)⟩,
 ⟨(some 12), (some (10, true)), .mov (.tmp 2)⟩,
 ⟨(some 13), (some (10, true)), .bin .leq (.tmp 11) (.tmp 12)⟩,
 ⟨(some 14), none, .pick (.tmp 10) (.tmp 13) (.lit (.bool false))⟩,
 ⟨(some 6), none, .mov (.tmp 14)⟩])
 (.ret))
theorem k46 : FnC Tryd.prog 46 15 [] [] [.tmp 6] c46 3 := ⟨Tryd.f46, _, Tryd.func46, rfl, by decide, rfl, by decide, by kernel_rfl, by kernel_rfl⟩
/-- (*dipworks/surf.sea).depth -/
def c47 : AC :=
 .seq (.reg [⟨(some 6), none, .mov (.lit (.int .i64 0))⟩])
 (.seq (.reg [⟨(some 7), none, .mov (.tmp 1)⟩,
 ⟨(some 8), none, .mov (.tmp 0)⟩,
 ⟨(some 9), none, .nilck (.tmp 8)⟩,
 ⟨(some 10), none, .faddr 0 (.tmp 9)⟩,
 ⟨(some 11), none, .faddr 1 (.tmp 10)⟩,
 ⟨(some 12), none, .load false 1 (.tmp 11)⟩,
 ⟨(some 13), none, .mov (.tmp 2)⟩,
 ⟨(some 14), none, .bin .mul (.tmp 12) (.tmp 13)⟩,
 ⟨(some 15), none, .bin .sub (.tmp 7) (.tmp 14)⟩,
 ⟨(some 16), none, .mxmn true (.lit (.int .i64 0)) [(.tmp 15)]⟩,
 ⟨(some 6), none, .mov (.tmp 16)⟩])
 (.ret))
theorem k47 : FnC Tryd.prog 47 17 [] [] [.tmp 6] c47 3 := ⟨Tryd.f47, _, Tryd.func47, rfl, by decide, rfl, by decide, by kernel_rfl, by kernel_rfl⟩
/-- dipworks/surf.isHut -/
def c52 : AC :=
 .seq (.reg [⟨(some 2), none, .box (.tmp 0)⟩,
 ⟨(some 4), none, .mov (.lit (.bool false))⟩])
 (.seq (.reg [⟨(some 5), none, .mov (.tmp 1)⟩,
 ⟨(some 6), none, .faddr 4 (.tmp 2)⟩,
 ⟨(some 7), none, .load false 1 (.tmp 6)⟩,
 ⟨(some 8), none, .len (.tmp 7)⟩,
 ⟨(some 9), none, .bin .sub (.tmp 8) (.lit (.int .i64 1))⟩,
 ⟨(some 10), none, .call (.fn 46) [(.tmp 5), (.lit (.int .i64 0)), (.tmp 9)]⟩,
 ⟨(some 4), none, .mov (.tmp 10)⟩])
 (.ret))
theorem k52 : FnC Tryd.prog 52 11 [] [] [.tmp 4] c52 2 := ⟨Tryd.f52, _, Tryd.func52, rfl, by decide, rfl, by decide, by kernel_rfl, by kernel_rfl⟩
/-- (*dipworks/surf.sea).follow -/
def c53 : AC :=
 .seq (.reg [⟨(some 3), none, .box (.tmp 1)⟩,
 ⟨(some 4), none, .alloc [(.int .u64 0), (.int .u64 0), (.int .u64 0), (.int .u64 0), (.int .u64 0), (.int .u64 0), (.int .u64 0), (.int .u64 0), (.int .u64 0)]⟩])
 (.seq (.reg [⟨(some 7), none, .faddr 2 (.tmp 3)⟩,
 ⟨(some 8), none, .load false 1 (.tmp 7)⟩,
 ⟨(some 9), none, .call (.fn 79) [(.tmp 8)]⟩,
 ⟨(some 10), none, .iaddrA 9 1 (.tmp 4) (.lit (.int .i64 0))⟩,
 ⟨none, none, .store 1 (.tmp 10) (.tmp 9)⟩])
 (.seq (.seq (.reg [⟨(some 11), none, .mov (.tmp 0)⟩,
 ⟨(some 12), none, .nilck (.tmp 11)⟩,
 ⟨(some 13), none, .faddr 0 (.tmp 12)⟩,
 ⟨(some 14), none, .faddr 2 (.tmp 13)⟩,
 ⟨(some 15), none, .load false 1 (.tmp 14)⟩,
 ⟨(some 16), none, .len (.tmp 15)⟩,
 ⟨(some 17), none, .mov (.lit (.int .i64 0))⟩])
 (.block 0 (.loop (.seq (.reg [⟨(some 18), none, .bin .lss (.tmp 17) (.tmp 16)⟩])
 (.seq (.cond (.tmp 18) (.skip)
 (.exit 0))
 (.seq (.block 1 (.seq (.reg [⟨(some 19), none, .mov (.tmp 17)⟩,
 ⟨(some 5), none, .mov (.tmp 19)⟩])
 (.seq (.reg [⟨(some 6), none, .alloc [(.int .u64 0)]⟩])
 (.seq (.draw (.step ⟨(some 20), none, .mov (.tmp 0)⟩ (
 .step ⟨(some 21), none, .load true 3 (.tmp 3)⟩ (
 .step ⟨(some 22), none, .mov (.tmp 5)⟩ (
 .step ⟨(some 23), none, .iaddrA 9 1 (.tmp 4) (.tmp 22)⟩ (
 .step ⟨(some 24), none, .load false 1 (.tmp 23)⟩ (
 .step ⟨(some 25), none, .mov (.tmp 5)⟩ (
 .step ⟨(some 26), none, .mkif 120 (.tmp 6)⟩ (
 .ev ⟨(some 27), none, .call (.fn 80) [(.tmp 20), (.tmp 21), (.tmp 24), (.tmp 25), (.tmp 26)]⟩ [⟨(some 23), none, .iaddrA 9 1 (.tmp 4) (.tmp 22)⟩] (
 .done)
 (.stop))))))))))
 (.reg [⟨(some 28), none, .mov (.tmp 5)⟩,
 ⟨(some 29), none, .bin .add (.tmp 28) (.lit (.int .i64 1))⟩,
 ⟨(some 30), none, .faddr 0 (.tmp 6)⟩,
 ⟨(some 31), none, .load false 1 (.tmp 30)⟩,
 ⟨(some 32), none, .iaddrA 9 1 (.tmp 4) (.tmp 29)⟩,
 ⟨none, none, .store 1 (.tmp 32) (.tmp 31)⟩])))))
 (.reg [⟨(some 33), none, .bin .add (.tmp 17) (.lit (.int .i64 1))⟩,
 ⟨(some 17), none, .mov (.tmp 33)⟩])))))))
 (.seq (.reg [⟨(some 34), none, .load true 9 (.tmp 4)⟩,
 ⟨none, none, .store 9 (.tmp 4) (.tmp 34)⟩])
 (.ret))))
theorem k53 : FnC Tryd.prog 53 35 [4] [] [.cell 4 true 9] c53 2 := ⟨Tryd.f53, _, Tryd.func53, rfl, by decide, rfl, by decide, by kernel_rfl, by kernel_rfl⟩
/-- (dipworks/surf.places).lost -/
def c54 : AC :=
 .seq (.reg [⟨(some 2), none, .mov (.lit (.bool false))⟩])
 (.seq (.reg [⟨(some 3), none, .mov (.tmp 0)⟩,
 ⟨(some 4), none, .bin .and (.tmp 3) (.lit (.int .u64 1))⟩,
 ⟨(some 5), none, .bin .eql (.tmp 4) (.lit (.int .u64 1))⟩,
 ⟨(some 2), none, .mov (.tmp 5)⟩])
 (.ret))
theorem k54 : FnC Tryd.prog 54 6 [] [] [.tmp 2] c54 1 := ⟨Tryd.f54, _, Tryd.func54, rfl, by decide, rfl, by decide, by kernel_rfl, by kernel_rfl⟩
/-- (dipworks/surf.places).rows -/
def c55 : AC :=
 .seq (.reg [⟨(some 2), none, .mov (.lit (.int .i64 0))⟩])
 (.seq (.reg [⟨(some 3), none, .mov (.tmp 0)⟩,
 ⟨(some 4), none, .bin .shr (.tmp 3) (.lit (.int .u64 1))⟩,
 ⟨(some 5), none, .conv .i64 (.tmp 4)⟩,
 ⟨(some 2), none, .mov (.tmp 5)⟩])
 (.ret))
theorem k55 : FnC Tryd.prog 55 6 [] [] [.tmp 2] c55 1 := ⟨Tryd.f55, _, Tryd.func55, rfl, by decide, rfl, by decide, by kernel_rfl, by kernel_rfl⟩
/-- (*dipworks/surf.sea).tallies -/
def c59 : AC :=
 .seq (.reg [⟨(some 3), none, .box (.tmp 1)⟩,
 ⟨(some 4), none, .mov (.lit (.slice none 0 0))⟩])
 (.seq (.reg [⟨(some 8), none, .mov (.tmp 0)⟩,
 ⟨(some 9), none, .load true 3 (.tmp 3)⟩,
 ⟨(some 10), none, .call (.fn 53) [(.tmp 8), (.tmp 9)]⟩,
 ⟨(some 5), none, .alloc [(.int .u64 0), (.int .u64 0), (.int .u64 0), (.int .u64 0), (.int .u64 0), (.int .u64 0), (.int .u64 0), (.int .u64 0), (.int .u64 0)]⟩,
 ⟨none, none, .store 9 (.tmp 5) (.tmp 10)⟩])
 (.seq (.reg [⟨(some 11), none, .mov (.tmp 0)⟩,
 ⟨(some 12), none, .nilck (.tmp 11)⟩,
 ⟨(some 13), none, .faddr 0 (.tmp 12)⟩,
 ⟨(some 14), none, .faddr 2 (.tmp 13)⟩,
 ⟨(some 15), none, .load false 1 (.tmp 14)⟩,
 ⟨(some 16), none, .len (.tmp 15)⟩,
 ⟨(some 17), none, .mks 2 2 (.agg #[(.bool false), (.bool false)]) (.tmp 16) (.tmp 16)⟩,
 ⟨(some 6), none, .mov (.tmp 17)⟩])
 (.seq (.seq (.reg [⟨(some 18), none, .mov (.tmp 6)⟩,
 ⟨(some 19), none, .len (.tmp 18)⟩,
 ⟨(some 20), none, .mov (.lit (.int .i64 0))⟩])
 (.block 0 (.loop (.seq (.reg [⟨(some 21), none, .bin .lss (.tmp 20) (.tmp 19)⟩])
 (.seq (.cond (.tmp 21) (.skip)
 (.exit 0))
 (.seq (.block 1 (.seq (.reg [⟨(some 22), none, .mov (.tmp 20)⟩,
 ⟨(some 7), none, .mov (.tmp 22)⟩])
 (.draw (.step ⟨(some 23), none, .mov (.tmp 0)⟩ (
 .step ⟨(some 24), none, .load true 3 (.tmp 3)⟩ (
 .step ⟨(some 25), none, .mov (.tmp 7)⟩ (
 .step ⟨(some 26), none, .iaddrA 9 1 (.tmp 5) (.tmp 25)⟩ (
 .step ⟨(some 27), none, .load false 1 (.tmp 26)⟩ (
 .step ⟨(some 28), none, .mov (.tmp 7)⟩ (
 .step ⟨(some 29), none, .mov (.tmp 6)⟩ (
 .step ⟨(some 30), none, .mov (.tmp 7)⟩ (
 .step ⟨(some 31), none, .iaddr 2 (.tmp 29) (.tmp 30)⟩ (
 .step ⟨(some 32), none, .mkif 123 (.tmp 31)⟩ (
 .ev ⟨(some 33), none, .call (.fn 80) [(.tmp 23), (.tmp 24), (.tmp 27), (.tmp 28), (.tmp 32)]⟩ [⟨(some 31), none, .iaddr 2 (.tmp 29) (.tmp 30)⟩, ⟨(some 26), none, .iaddrA 9 1 (.tmp 5) (.tmp 25)⟩] (
 .done)
 (.stop)))))))))))))))
 (.reg [⟨(some 34), none, .bin .add (.tmp 20) (.lit (.int .i64 1))⟩,
 ⟨(some 20), none, .mov (.tmp 34)⟩])))))))
 (.seq (.reg [⟨(some 35), none, .mov (.tmp 6)⟩,
 ⟨(some 4), none, .mov (.tmp 35)⟩])
 (.ret)))))
theorem k59 : FnC Tryd.prog 59 36 [] [] [.tmp 4] c59 2 := ⟨Tryd.f59, _, Tryd.func59, rfl, by decide, rfl, by decide, by kernel_rfl, by kernel_rfl⟩
/-- (*dipworks/surf.sea).first -/
def c62 : AC :=
 .seq (.reg [⟨(some 3), none, .box (.tmp 1)⟩,
 ⟨(some 4), none, .mov (.lit (.int .i64 0))⟩])
 (.seq (.reg [⟨(some 5), none, .mov (.tmp 0)⟩,
 ⟨(some 6), none, .load true 3 (.tmp 3)⟩,
 ⟨(some 7), none, .call (.fn 59) [(.tmp 5), (.tmp 6)]⟩,
 ⟨(some 8), none, .call (.fn 84) [(.tmp 7), (.fn 85)]⟩,
 ⟨(some 4), none, .mov (.tmp 8)⟩])
 (.ret))
theorem k62 : FnC Tryd.prog 62 9 [] [] [.tmp 4] c62 2 := ⟨Tryd.f62, _, Tryd.func62, rfl, by decide, rfl, by decide, by kernel_rfl, by kernel_rfl⟩
/-- dipworks/surf.ask -/
def c63 : AC :=
 .seq (.reg [⟨(some 4), none, .mov (.tmp 0)⟩,
 ⟨(some 5), none, .un .not (.tmp 4)⟩])
 (.cond (.tmp 5) (.reg [⟨(some 6), none, .mov (.tmp 1)⟩,
 ⟨(some 7), none, .mkif 111 (.tmp 6)⟩,
 ⟨none, none, .pan (.tmp 7)⟩])
 (.skip))
theorem k63 : FnC Tryd.prog 63 8 [] [] [] c63 2 := ⟨Tryd.f63, _, Tryd.func63, rfl, by decide, rfl, by decide, by kernel_rfl, by kernel_rfl⟩
/-- dipworks/surf.least[dipworks/api.SurfHut] -/
def c65 : AC :=
 .seq (.reg [⟨(some 3), none, .box (.tmp 0)⟩,
 ⟨(some 5), none, .box (.tmp 2)⟩,
 ⟨(some 6), none, .mov (.lit (.int .i64 0))⟩])
 (.seq (.seq (.reg [⟨(some 8), none, .mov (.tmp 1)⟩,
 ⟨(some 9), none, .mov (.lit (.int .i64 0))⟩])
 (.block 0 (.loop (.seq (.reg [⟨(some 10), none, .bin .lss (.tmp 9) (.tmp 8)⟩])
 (.seq (.cond (.tmp 10) (.skip)
 (.exit 0))
 (.seq (.block 1 (.seq (.reg [⟨(some 11), none, .mov (.tmp 9)⟩,
 ⟨(some 7), none, .mov (.tmp 11)⟩])
 (.seq (.draw (.step ⟨(some 12), none, .faddr 1 (.tmp 5)⟩ (
 .step ⟨(some 13), none, .load false 1 (.tmp 12)⟩ (
 .step ⟨(some 14), none, .faddr 0 (.tmp 5)⟩ (
 .step ⟨(some 15), none, .load false 1 (.tmp 14)⟩ (
 .step ⟨(some 16), none, .load true 3 (.tmp 3)⟩ (
 .step ⟨(some 17), none, .mov (.tmp 7)⟩ (
 .ev ⟨(some 18), none, .call (.tmp 15) [(.tmp 16), (.tmp 17)]⟩ [⟨(some 14), none, .faddr 0 (.tmp 5)⟩, ⟨(some 13), none, .load false 1 (.tmp 12)⟩, ⟨(some 12), none, .faddr 1 (.tmp 5)⟩] (
 .ev ⟨(some 19), none, .call (.tmp 13) [(.tmp 18)]⟩ [⟨(some 16), none, .load true 3 (.tmp 3)⟩, ⟨(some 15), none, .load false 1 (.tmp 14)⟩, ⟨(some 14), none, .faddr 0 (.tmp 5)⟩, ⟨(some 12), none, .faddr 1 (.tmp 5)⟩] (
 .done)
 (.stop))
 (.stop)))))))))
 (.cond (.tmp 19) (.seq (.reg [⟨(some 20), none, .mov (.tmp 7)⟩,
 ⟨(some 6), none, .mov (.tmp 20)⟩])
 (.ret))
 (.skip)))))
 (.reg [⟨(some 21), none, .bin .add (.tmp 9) (.lit (.int .i64 1))⟩,
 ⟨(some 9), none, .mov (.tmp 21)⟩])))))))
 (.seq (.reg [⟨(some 22), none, .mov (.tmp 1)⟩,
 ⟨(some 6), none, .mov (.tmp 22)⟩])
 (.ret)))
theorem k65 : FnC Tryd.prog 65 23 [] [] [.tmp 6] c65 3 := ⟨Tryd.f65, _, Tryd.func65, rfl, by decide, rfl, by decide, by kernel_rfl, by kernel_rfl⟩
/-- dipworks/surf.Brake$1 -/
def c66 : AC :=
 .seq (.reg [⟨(some 2), none, .box (.tmp 0)⟩,
 ⟨(some 4), none, .alloc [(.int .i64 0), (.int .i64 0), (.int .i64 0)]⟩])
 (.seq (.reg [⟨(some 5), none, .mov (.tmp 1)⟩,
 ⟨(some 6), none, .faddr 1 (.tmp 2)⟩,
 ⟨none, none, .store 1 (.tmp 6) (.tmp 5)⟩])
 (.seq (.reg [⟨(some 7), none, .load true 3 (.tmp 2)⟩,
 ⟨none, none, .store 3 (.tmp 4) (.tmp 7)⟩])
 (.ret)))
theorem k66 : FnC Tryd.prog 66 8 [4] [] [.cell 4 true 3] c66 2 := ⟨Tryd.f66, _, Tryd.func66, rfl, by decide, rfl, by decide, by kernel_rfl, by kernel_rfl⟩
/-- dipworks/surf.Brake$2 -/
def c67 : AC :=
 .seq (.reg [⟨(some 3), none, .box (.tmp 0)⟩,
 ⟨(some 4), none, .mov (.lit (.bool false))⟩])
 (.seq (.draw (.step ⟨(some 5), none, .load false 1 (.tmp 1)⟩ (
 .step ⟨(some 6), none, .load true 3 (.tmp 3)⟩ (
 .step ⟨(some 8), none, .faddr 2 (.tmp 2)⟩ (
 .step ⟨(some 9), none, .load false 1 (.tmp 8)⟩ (
 .step ⟨(some 10), none, .len (.tmp 9)⟩ (
 .ev ⟨(some 7), none, .call (.fn 53) [(.tmp 5), (.tmp 6)]⟩ [⟨(some 10), none, .len (.tmp 9)⟩, ⟨(some 9), none, .load false 1 (.tmp 8)⟩, ⟨(some 8), none, .faddr 2 (.tmp 2)⟩] (
 .step ⟨(some 11), none, .aidx 9 false 1 (.tmp 7) (.tmp 10)⟩ (
 .ev ⟨(some 12), none, .call (.fn 54) [(.tmp 11)]⟩ [⟨(some 10), none, .len (.tmp 9)⟩, ⟨(some 9), none, .load false 1 (.tmp 8)⟩, ⟨(some 8), none, .faddr 2 (.tmp 2)⟩, ⟨(some 6), none, .load true 3 (.tmp 3)⟩, ⟨(some 5), none, .load false 1 (.tmp 1)⟩] (
 .step ⟨(some 13), none, .un .not (.tmp 12)⟩ (
 .step ⟨(some 4), none, .mov (.tmp 13)⟩ (
 .done)))
 (.stop)))
 (.stop))))))))
 (.ret))
theorem k67 : FnC Tryd.prog 67 14 [] [] [.tmp 4] c67 3 := ⟨Tryd.f67, _, Tryd.func67, rfl, by decide, rfl, by decide, by kernel_rfl, by kernel_rfl⟩
/-- dipworks/surf.Floor$1 -/
def c69 : AC :=
 .seq (.reg [⟨(some 2), none, .box (.tmp 0)⟩,
 ⟨(some 4), none, .alloc [(.int .i64 0), (.int .i64 0), (.int .i64 0)]⟩])
 (.seq (.reg [⟨(some 5), none, .mov (.tmp 1)⟩,
 ⟨(some 6), none, .faddr 0 (.tmp 2)⟩,
 ⟨none, none, .store 1 (.tmp 6) (.tmp 5)⟩])
 (.seq (.reg [⟨(some 7), none, .load true 3 (.tmp 2)⟩,
 ⟨none, none, .store 3 (.tmp 4) (.tmp 7)⟩])
 (.ret)))
theorem k69 : FnC Tryd.prog 69 8 [4] [] [.cell 4 true 3] c69 2 := ⟨Tryd.f69, _, Tryd.func69, rfl, by decide, rfl, by decide, by kernel_rfl, by kernel_rfl⟩
/-- dipworks/surf.Floor$2 -/
def c70 : AC :=
 .seq (.reg [⟨(some 2), none, .box (.tmp 0)⟩,
 ⟨(some 3), none, .mov (.lit (.bool false))⟩])
 (.seq (.reg [⟨(some 4), none, .load false 1 (.tmp 1)⟩,
 ⟨(some 5), none, .load true 3 (.tmp 2)⟩,
 ⟨(some 6), none, .call (.fn 62) [(.tmp 4), (.tmp 5)]⟩,
 ⟨(some 7), none, .bin .lss (.tmp 6) (.lit (.int .i64 0))⟩,
 ⟨(some 3), none, .mov (.tmp 7)⟩])
 (.ret))
theorem k70 : FnC Tryd.prog 70 8 [] [] [.tmp 3] c70 2 := ⟨Tryd.f70, _, Tryd.func70, rfl, by decide, rfl, by decide, by kernel_rfl, by kernel_rfl⟩
/-- dipworks/surf.open$1 -/
def c78 : AC :=
 .seq (.reg [⟨(some 2), none, .box (.tmp 0)⟩,
 ⟨(some 4), none, .mov (.lit (.bool false))⟩])
 (.seq (.reg [⟨(some 5), none, .faddr 0 (.tmp 2)⟩,
 ⟨(some 6), none, .load false 1 (.tmp 5)⟩,
 ⟨(some 7), none, .bin .leq (.lit (.int .i64 0)) (.tmp 6)⟩,
 ⟨(some 8), none, .mov (.tmp 7)⟩,
 ⟨(some 9), (some (8, true)), .faddr 0 (.tmp 2)⟩,
 ⟨(some 10), (some (8, true)), .load false 1 (.tmp 9)⟩,
 ⟨(some 11), (some (8, true)), .faddr 1 (.tmp 2)⟩,
 ⟨(some 12), (some (8, true)), .load false 1 (.tmp 11)⟩,
 ⟨(some 13), (some (8, true)), .bin .leq (.tmp 10) (.tmp 12)⟩,
 ⟨(some 14), none, .pick (.tmp 8) (.tmp 13) (.lit (.bool false))⟩,
 ⟨(some 15), none, .mov (.tmp 14)⟩,
 ⟨(some 16), (some (15, true)), .faddr 1 (.tmp 2)⟩,
 ⟨(some 17), (some (15, true)), .load false 1 (.tmp 16)⟩,
 ⟨(some 18), (some (15, true)), .mov (.tmp 1)⟩,
 ⟨(some 19), (some (15, true)), .bin .leq (.tmp 17) (.tmp 18)⟩,
 ⟨(some 20), none, .pick (.tmp 15) (.tmp 19) (.lit (.bool false))⟩,
 ⟨(some 21), none, .mov (.tmp 20)⟩,
 ⟨(some 22), (some (21, true)), .faddr 1 (.tmp 2)⟩,
 ⟨(some 23), (some (21, true)), .load false 1 (.tmp 22)⟩,
 ⟨(some 24), (some (21, true)), .faddr 0 (.tmp 2)⟩,
 ⟨(some 25), (some (21, true)), .load false 1 (.tmp 24)⟩,
 ⟨(some 26), (some (21, true)), .bin .sub (.tmp 23) (.tmp 25)⟩,
 ⟨(some 27), (some (21, true)), .bin .leq (.tmp 26) (.lit (.int .i64 3))⟩,
 ⟨(some 28), none, .pick (.tmp 21) (.tmp 27) (.lit (.bool false))⟩,
 ⟨(some 4), none, .mov (.tmp 28)⟩])
 (.ret))
theorem k78 : FnC Tryd.prog 78 29 [] [] [.tmp 4] c78 2 := ⟨Tryd.f78, _, Tryd.func78, rfl, by decide, rfl, by decide, by kernel_rfl, by kernel_rfl⟩
/-- dipworks/surf.at -/
def c79 : AC :=
 .seq (.reg [⟨(some 2), none, .mov (.lit (.int .u64 0))⟩])
 (.seq (.reg [⟨(some 3), none, .mov (.tmp 0)⟩,
 ⟨(some 4), none, .bin .shl (.lit (.int .u64 2)) (.tmp 3)⟩,
 ⟨(some 2), none, .mov (.tmp 4)⟩])
 (.ret))
theorem k79 : FnC Tryd.prog 79 5 [] [] [.tmp 2] c79 1 := ⟨Tryd.f79, _, Tryd.func79, rfl, by decide, rfl, by decide, by kernel_rfl, by kernel_rfl⟩
/-- (*dipworks/surf.sea).look -/
def c80 : AC :=
 .seq (.reg [⟨(some 5), none, .box (.tmp 0)⟩,
 ⟨(some 6), none, .box (.tmp 1)⟩,
 ⟨(some 9), none, .box (.tmp 4)⟩])
 (.seq (.reg [⟨(some 10), none, .alloc [(.int .u64 0)]⟩,
 ⟨none, none, .store 1 (.tmp 10) (.lit (.int .u64 1))⟩])
 (.block 0 (.loop (.seq (.seq (.reg [⟨(some 13), none, .load false 1 (.tmp 10)⟩,
 ⟨(some 14), none, .mov (.tmp 2)⟩,
 ⟨(some 15), none, .bin .leq (.tmp 13) (.tmp 14)⟩])
 (.cond (.tmp 15) (.skip)
 (.exit 0)))
 (.seq (.block 1 (.seq (.seq (.reg [⟨(some 18), none, .load false 1 (.tmp 10)⟩,
 ⟨(some 19), none, .mov (.tmp 2)⟩,
 ⟨(some 20), none, .bin .and (.tmp 18) (.tmp 19)⟩,
 ⟨(some 21), none, .bin .eql (.tmp 20) (.lit (.int .u64 0))⟩])
 (.cond (.tmp 21) (.exit 1)
 (.skip)))
 (.seq (.reg [⟨(some 22), none, .load false 1 (.tmp 5)⟩,
 ⟨(some 23), none, .mov (.tmp 3)⟩,
 ⟨(some 24), none, .call (.fn 88) [(.tmp 22), (.tmp 23)]⟩])
 (.block 2 (.seq (.gcp)
 (.rangeF (.tmp 24) 25 (.reg [⟨(some 11), none, .alloc [(.int .i64 0), (.int .i64 0)]⟩,
 ⟨none, none, .store 2 (.tmp 11) (.tmp 25)⟩])
 (.block 3 (.seq (.reg [⟨(some 26), none, .load true 3 (.tmp 6)⟩,
 ⟨(some 27), none, .load true 2 (.tmp 11)⟩,
 ⟨(some 28), none, .load false 1 (.tmp 10)⟩,
 ⟨(some 29), none, .build [(.int .i64 0), (.int .i64 0), (.int .i64 0), (.int .i64 0), (.int .i64 0), (.int .u64 0)] [(0, 3, (.tmp 26)), (3, 2, (.tmp 27)), (5, 1, (.tmp 28))]⟩,
 ⟨(some 12), none, .alloc [(.int .i64 0), (.int .i64 0), (.int .i64 0), (.int .i64 0), (.int .i64 0), (.int .u64 0)]⟩,
 ⟨none, none, .store 6 (.tmp 12) (.tmp 29)⟩])
 (.draw (.step ⟨(some 30), none, .load false 1 (.tmp 9)⟩ (
 .step ⟨(some 31), none, .load true 6 (.tmp 12)⟩ (
 .step ⟨(some 32), none, .load false 1 (.tmp 5)⟩ (
 .step ⟨(some 33), none, .load true 6 (.tmp 12)⟩ (
 .step ⟨(some 35), none, .mkfn (.method "dipworks/surf.see") [(.tmp 30)] []⟩ (
 .step ⟨(some 36), none, .nilckM [(120, 109), (123, 112)] "dipworks/surf.see" (.tmp 35)⟩ (
 .step ⟨(some 37), none, .mov (.tmp 30)⟩ (
 .ev ⟨(some 34), none, .call (.fn 89) [(.tmp 32), (.tmp 33)]⟩ [⟨(some 36), none, .nilckM [(120, 109), (123, 112)] "dipworks/surf.see" (.tmp 35)⟩, ⟨(some 31), none, .load true 6 (.tmp 12)⟩, ⟨(some 30), none, .load false 1 (.tmp 9)⟩] (
 .ev ⟨(some 38), none, .inv [(120, 109), (123, 112)] (.tmp 37) [(.tmp 31), (.tmp 34)]⟩ [⟨(some 36), none, .nilckM [(120, 109), (123, 112)] "dipworks/surf.see" (.tmp 35)⟩, ⟨(some 33), none, .load true 6 (.tmp 12)⟩, ⟨(some 32), none, .load false 1 (.tmp 5)⟩, ⟨(some 30), none, .load false 1 (.tmp 9)⟩] (
 .done)
 (.stop))
 (.stop))))))))))))))))))
 (.seq (.seq (.reg [⟨(some 39), none, .load false 1 (.tmp 10)⟩])
 (.reg [⟨(some 10), none, .alloc [(.int .u64 0)]⟩,
 ⟨none, none, .store 1 (.tmp 10) (.tmp 39)⟩]))
 (.reg [⟨(some 16), none, .load false 1 (.tmp 10)⟩,
 ⟨(some 17), none, .bin .shl (.tmp 16) (.lit (.int .u64 1))⟩,
 ⟨none, none, .store 1 (.tmp 10) (.tmp 17)⟩])))))))
theorem k80 : FnC Tryd.prog 80 40 [] [1000000] [] c80 5 := ⟨Tryd.f80, _, Tryd.func80, rfl, by decide, rfl, by decide, by kernel_rfl, by kernel_rfl⟩
/-- slices.IndexFunc[[]dipworks/surf.tally,dipworks/surf.tally] -/
def c84 : AC :=
 .seq (.reg [⟨(some 4), none, .mov (.lit (.int .i64 0))⟩])
 (.seq (.seq (.reg [⟨(some 6), none, .mov (.tmp 0)⟩,
 ⟨(some 7), none, .len (.tmp 6)⟩,
 ⟨(some 8), none, .mov (.lit (.int .i64 0))⟩])
 (.block 0 (.loop (.seq (.reg [⟨(some 9), none, .bin .lss (.tmp 8) (.tmp 7)⟩])
 (.seq (.cond (.tmp 9) (.skip)
 (.exit 0))
 (.seq (.block 1 (.seq (.reg [⟨(some 10), none, .mov (.tmp 8)⟩,
 ⟨(some 5), none, .mov (.tmp 10)⟩])
 (.seq (.reg [⟨(some 11), none, .mov (.tmp 1)⟩,
 ⟨(some 12), none, .mov (.tmp 0)⟩,
 ⟨(some 13), none, .mov (.tmp 5)⟩,
 ⟨(some 14), none, .iaddr 2 (.tmp 12) (.tmp 13)⟩,
 ⟨(some 15), none, .load true 2 (.tmp 14)⟩,
 ⟨(some 16), none, .call (.tmp 11) [(.tmp 15)]⟩])
 (.cond (.tmp 16) (.seq (.reg [⟨(some 17), none, .mov (.tmp 5)⟩,
 ⟨(some 4), none, .mov (.tmp 17)⟩])
 (.ret))
 (.skip)))))
 (.reg [⟨(some 18), none, .bin .add (.tmp 8) (.lit (.int .i64 1))⟩,
 ⟨(some 8), none, .mov (.tmp 18)⟩])))))))
 (.seq (.reg [⟨(some 4), none, .mov (.lit (.int .i64 (-1)))⟩])
 (.ret)))
theorem k84 : FnC Tryd.prog 84 19 [] [] [.tmp 4] c84 2 := ⟨Tryd.f84, _, Tryd.func84, rfl, by decide, rfl, by decide, by kernel_rfl, by kernel_rfl⟩
/-- (*dipworks/surf.sea).first$1 -/
def c85 : AC :=
 .seq (.reg [⟨(some 1), none, .box (.tmp 0)⟩,
 ⟨(some 2), none, .mov (.lit (.bool false))⟩])
 (.seq (.reg [⟨(some 3), none, .faddr 0 (.tmp 1)⟩,
 ⟨(some 4), none, .load false 1 (.tmp 3)⟩,
 ⟨(some 2), none, .mov (.tmp 4)⟩])
 (.ret))
theorem k85 : FnC Tryd.prog 85 5 [] [] [.tmp 2] c85 1 := ⟨Tryd.f85, _, Tryd.func85, rfl, by decide, rfl, by decide, by kernel_rfl, by kernel_rfl⟩
/-- (*dipworks/surf.sea).hours -/
def c88 : AC :=
 .seq (.reg [⟨(some 2), none, .box (.tmp 0)⟩,
 ⟨(some 3), none, .box (.tmp 1)⟩,
 ⟨(some 4), none, .mov (.lit .nilFunc)⟩])
 (.seq (.reg [⟨(some 5), none, .mkfn (.func 90) [] [(.tmp 2), (.tmp 3)]⟩,
 ⟨(some 4), none, .mov (.tmp 5)⟩])
 (.ret))
theorem k88 : FnC Tryd.prog 88 6 [] [] [.tmp 4] c88 2 := ⟨Tryd.f88, _, Tryd.func88, rfl, by decide, rfl, by decide, by kernel_rfl, by kernel_rfl⟩
/-- (*dipworks/surf.sea).floats -/
def c89 : AC :=
 .seq (.reg [⟨(some 3), none, .box (.tmp 1)⟩,
 ⟨(some 4), none, .mov (.lit (.bool false))⟩])
 (.seq (.draw (.step ⟨(some 9), none, .mov (.tmp 0)⟩ (
 .step ⟨(some 10), none, .nilck (.tmp 9)⟩ (
 .step ⟨(some 11), none, .faddr 5 (.tmp 10)⟩ (
 .step ⟨(some 12), none, .load false 1 (.tmp 11)⟩ (
 .step ⟨(some 13), none, .load true 6 (.tmp 3)⟩ (
 .step ⟨(some 14), none, .look (some [(some .i64), (some .i64), (some .i64), (some .i64), (some .i64), (some .u64)], none) (.bool false) true (.tmp 12) (.tmp 13)⟩ (
 .step ⟨(some 8), none, .mov (.tmp 14)⟩ (
 .step ⟨(some 15), none, .ext (.tmp 8) 0⟩ (
 .step ⟨(some 16), none, .ext (.tmp 8) 1⟩ (
 .step ⟨(some 5), none, .mov (.tmp 15)⟩ (
 .step ⟨(some 6), none, .mov (.tmp 16)⟩ (
 .done)))))))))))))
 (.seq (.seq (.reg [⟨(some 17), none, .mov (.tmp 6)⟩,
 ⟨(some 18), none, .un .not (.tmp 17)⟩])
 (.cond (.tmp 18) (.seq (.seq (.reg [⟨(some 19), none, .faddr 5 (.tmp 3)⟩,
 ⟨(some 20), none, .load false 1 (.tmp 19)⟩,
 ⟨(some 21), none, .call (.fn 54) [(.tmp 20)]⟩,
 ⟨(some 22), none, .un .not (.tmp 21)⟩])
 (.cond (.tmp 22) (.seq (.draw (.step ⟨(some 23), none, .mov (.tmp 0)⟩ (
 .step ⟨(some 24), none, .faddr 3 (.tmp 3)⟩ (
 .step ⟨(some 25), none, .faddr 0 (.tmp 24)⟩ (
 .step ⟨(some 26), none, .load false 1 (.tmp 25)⟩ (
 .step ⟨(some 27), none, .faddr 5 (.tmp 3)⟩ (
 .step ⟨(some 28), none, .load false 1 (.tmp 27)⟩ (
 .ev ⟨(some 29), none, .call (.fn 91) [(.tmp 28)]⟩ [⟨(some 27), none, .faddr 5 (.tmp 3)⟩, ⟨(some 26), none, .load false 1 (.tmp 25)⟩, ⟨(some 25), none, .faddr 0 (.tmp 24)⟩, ⟨(some 24), none, .faddr 3 (.tmp 3)⟩] (
 .step ⟨(some 30), none, .bin .sub (.tmp 29) (.lit (.int .i64 1))⟩ (
 .ev ⟨(some 31), none, .call (.fn 47) [(.tmp 23), (.tmp 26), (.tmp 30)]⟩ [⟨(some 28), none, .load false 1 (.tmp 27)⟩, ⟨(some 27), none, .faddr 5 (.tmp 3)⟩, ⟨(some 25), none, .faddr 0 (.tmp 24)⟩, ⟨(some 24), none, .faddr 3 (.tmp 3)⟩] (
 .step ⟨(some 7), none, .mov (.tmp 31)⟩ (
 .done))
 (.stop)))
 (.stop)))))))))
 (.reg [⟨(some 32), none, .mov (.tmp 7)⟩,
 ⟨(some 33), none, .bin .gtr (.tmp 32) (.lit (.int .i64 0))⟩,
 ⟨(some 34), none, .mov (.tmp 33)⟩,
 ⟨(some 35), (some (34, true)), .mov (.tmp 7)⟩,
 ⟨(some 36), (some (34, true)), .faddr 3 (.tmp 3)⟩,
 ⟨(some 37), (some (34, true)), .faddr 1 (.tmp 36)⟩,
 ⟨(some 38), (some (34, true)), .load false 1 (.tmp 37)⟩,
 ⟨(some 39), (some (34, true)), .bin .add (.tmp 35) (.tmp 38)⟩,
 ⟨(some 40), (some (34, true)), .faddr 0 (.tmp 3)⟩,
 ⟨(some 41), (some (34, true)), .faddr 0 (.tmp 40)⟩,
 ⟨(some 42), (some (34, true)), .load false 1 (.tmp 41)⟩,
 ⟨(some 43), (some (34, true)), .bin .gtr (.tmp 39) (.tmp 42)⟩,
 ⟨(some 44), none, .pick (.tmp 34) (.tmp 43) (.lit (.bool false))⟩,
 ⟨(some 5), none, .mov (.tmp 44)⟩]))
 (.skip)))
 (.draw (.step ⟨(some 45), none, .mov (.tmp 0)⟩ (
 .step ⟨(some 46), none, .nilck (.tmp 45)⟩ (
 .step ⟨(some 47), none, .faddr 5 (.tmp 46)⟩ (
 .step ⟨(some 48), none, .load false 1 (.tmp 47)⟩ (
 .step ⟨(some 49), none, .load true 6 (.tmp 3)⟩ (
 .step ⟨(some 50), none, .mov (.tmp 5)⟩ (
 .ev ⟨none, none, .mput (some [(some .i64), (some .i64), (some .i64), (some .i64), (some .i64), (some .u64)], none) (.tmp 48) (.tmp 49) (.tmp 50)⟩ [] (
 .done)
 (.stop))))))))))
 (.skip)))
 (.seq (.reg [⟨(some 51), none, .mov (.tmp 5)⟩,
 ⟨(some 4), none, .mov (.tmp 51)⟩])
 (.ret))))
theorem k89 : FnC Tryd.prog 89 52 [] [] [.tmp 4] c89 2 := ⟨Tryd.f89, _, Tryd.func89, rfl, by decide, rfl, by decide, by kernel_rfl, by kernel_rfl⟩
/-- (*dipworks/surf.sea).hours$1 -/
def c90 : AC :=
 .scope (.seq (.skip)
 (.seq (.draw (.step ⟨(some 6), none, .load false 1 (.tmp 1)⟩ (
 .step ⟨(some 7), none, .nilck (.tmp 6)⟩ (
 .step ⟨(some 8), none, .faddr 0 (.tmp 7)⟩ (
 .step ⟨(some 9), none, .faddr 2 (.tmp 8)⟩ (
 .step ⟨(some 10), none, .load false 1 (.tmp 9)⟩ (
 .step ⟨(some 11), none, .load false 1 (.tmp 2)⟩ (
 .step ⟨(some 12), none, .iaddr 2 (.tmp 10) (.tmp 11)⟩ (
 .step ⟨(some 13), none, .faddr 0 (.tmp 12)⟩ (
 .step ⟨(some 14), none, .load false 1 (.tmp 13)⟩ (
 .step ⟨(some 4), none, .mov (.tmp 14)⟩ (
 .done))))))))))))
 (.block 0 (.loop (.seq (.seq (.draw (.step ⟨(some 15), none, .mov (.tmp 4)⟩ (
 .step ⟨(some 16), none, .load false 1 (.tmp 1)⟩ (
 .step ⟨(some 17), none, .nilck (.tmp 16)⟩ (
 .step ⟨(some 18), none, .faddr 0 (.tmp 17)⟩ (
 .step ⟨(some 19), none, .faddr 2 (.tmp 18)⟩ (
 .step ⟨(some 20), none, .load false 1 (.tmp 19)⟩ (
 .step ⟨(some 21), none, .load false 1 (.tmp 2)⟩ (
 .step ⟨(some 22), none, .iaddr 2 (.tmp 20) (.tmp 21)⟩ (
 .step ⟨(some 23), none, .faddr 1 (.tmp 22)⟩ (
 .step ⟨(some 24), none, .load false 1 (.tmp 23)⟩ (
 .step ⟨(some 25), none, .bin .leq (.tmp 15) (.tmp 24)⟩ (
 .done)))))))))))))
 (.cond (.tmp 25) (.skip)
 (.exit 0)))
 (.seq (.block 1 (.seq (.draw (.step ⟨(some 28), none, .load false 1 (.tmp 1)⟩ (
 .step ⟨(some 29), none, .nilck (.tmp 28)⟩ (
 .step ⟨(some 30), none, .faddr 0 (.tmp 29)⟩ (
 .step ⟨(some 31), none, .faddr 3 (.tmp 30)⟩ (
 .step ⟨(some 32), none, .load false 1 (.tmp 31)⟩ (
 .step ⟨(some 33), none, .load false 1 (.tmp 2)⟩ (
 .step ⟨(some 34), none, .iaddr 2 (.tmp 32) (.tmp 33)⟩ (
 .step ⟨(some 35), none, .faddr 0 (.tmp 34)⟩ (
 .step ⟨(some 36), none, .load false 1 (.tmp 35)⟩ (
 .step ⟨(some 5), none, .mov (.tmp 36)⟩ (
 .done))))))))))))
 (.block 2 (.loop (.seq (.seq (.draw (.step ⟨(some 37), none, .mov (.tmp 5)⟩ (
 .step ⟨(some 38), none, .load false 1 (.tmp 1)⟩ (
 .step ⟨(some 39), none, .nilck (.tmp 38)⟩ (
 .step ⟨(some 40), none, .faddr 0 (.tmp 39)⟩ (
 .step ⟨(some 41), none, .faddr 3 (.tmp 40)⟩ (
 .step ⟨(some 42), none, .load false 1 (.tmp 41)⟩ (
 .step ⟨(some 43), none, .load false 1 (.tmp 2)⟩ (
 .step ⟨(some 44), none, .iaddr 2 (.tmp 42) (.tmp 43)⟩ (
 .step ⟨(some 45), none, .faddr 1 (.tmp 44)⟩ (
 .step ⟨(some 46), none, .load false 1 (.tmp 45)⟩ (
 .step ⟨(some 47), none, .bin .leq (.tmp 37) (.tmp 46)⟩ (
 .done)))))))))))))
 (.cond (.tmp 47) (.skip)
 (.exit 2)))
 (.seq (.block 3 (.seq (.reg [⟨(some 50), none, .mov (.tmp 0)⟩,
 ⟨(some 51), none, .mov (.tmp 4)⟩,
 ⟨(some 52), none, .mov (.tmp 5)⟩,
 ⟨(some 53), none, .build [(.int .i64 0), (.int .i64 0)] [(0, 1, (.tmp 51)), (1, 1, (.tmp 52))]⟩,
 ⟨(some 54), none, .call (.tmp 50) [(.tmp 53)]⟩,
 ⟨(some 55), none, .un .not (.tmp 54)⟩])
 (.cond (.tmp 55) (.exit 0)
 (.skip))))
 (.reg [⟨(some 48), none, .mov (.tmp 5)⟩,
 ⟨(some 49), none, .bin .add (.tmp 48) (.lit (.int .i64 1))⟩,
 ⟨(some 5), none, .mov (.tmp 49)⟩])))))))
 (.reg [⟨(some 26), none, .mov (.tmp 4)⟩,
 ⟨(some 27), none, .bin .add (.tmp 26) (.lit (.int .i64 1))⟩,
 ⟨(some 4), none, .mov (.tmp 27)⟩])))))))
theorem k90 : FnC Tryd.prog 90 56 [] [] [] c90 3 := ⟨Tryd.f90, _, Tryd.func90, rfl, by decide, rfl, by decide, by kernel_rfl, by kernel_rfl⟩
/-- math/bits.TrailingZeros -/
def c91 : AC :=
 .seq (.reg [⟨(some 2), none, .mov (.lit (.int .i64 0))⟩])
 (.seq (.cond (.lit (.bool false)) (.seq (.reg [⟨(some 3), none, .mov (.tmp 0)⟩,
 ⟨(some 4), none, .conv .u32 (.tmp 3)⟩,
 ⟨(some 5), none, .call (.fn 92) [(.tmp 4)]⟩,
 ⟨(some 2), none, .mov (.tmp 5)⟩])
 (.ret))
 (.skip))
 (.seq (.reg [⟨(some 6), none, .mov (.tmp 0)⟩,
 ⟨(some 7), none, .call (.fn 93) [(.tmp 6)]⟩,
 ⟨(some 2), none, .mov (.tmp 7)⟩])
 (.ret)))
theorem k91 : FnC Tryd.prog 91 8 [] [] [.tmp 2] c91 1 := ⟨Tryd.f91, _, Tryd.func91, rfl, by decide, rfl, by decide, by kernel_rfl, by kernel_rfl⟩
/-- math/bits.TrailingZeros32 -/
def c92 : AC :=
 .seq (.reg [⟨(some 2), none, .mov (.lit (.int .i64 0))⟩])
 (.seq (.seq (.reg [⟨(some 3), none, .mov (.tmp 0)⟩,
 ⟨(some 4), none, .bin .eql (.tmp 3) (.lit (.int .u32 0))⟩])
 (.cond (.tmp 4) (.seq (.reg [⟨(some 2), none, .mov (.lit (.int .i64 32))⟩])
 (.ret))
 (.skip)))
 (.seq (.reg [⟨(some 5), none, .mov (.tmp 0)⟩,
 ⟨(some 6), none, .mov (.tmp 0)⟩,
 ⟨(some 7), none, .un .neg (.tmp 6)⟩,
 ⟨(some 8), none, .bin .and (.tmp 5) (.tmp 7)⟩,
 ⟨(some 9), none, .bin .mul (.tmp 8) (.lit (.int .u32 125613361))⟩,
 ⟨(some 10), none, .bin .shr (.tmp 9) (.lit (.int .u64 27))⟩,
 ⟨(some 11), none, .iaddrA 32 1 (.tr (.ptr (tabT tab32) 0)) (.tmp 10)⟩,
 ⟨(some 12), none, .load false 1 (.tmp 11)⟩,
 ⟨(some 13), none, .conv .i64 (.tmp 12)⟩,
 ⟨(some 2), none, .mov (.tmp 13)⟩])
 (.ret)))
theorem k92 : FnC Tryd.prog 92 14 [] [] [.tmp 2] c92 1 := ⟨Tryd.f92, _, Tryd.func92, rfl, by decide, rfl, by decide, by kernel_rfl, by kernel_rfl⟩
/-- math/bits.TrailingZeros64 -/
def c93 : AC :=
 .seq (.reg [⟨(some 2), none, .mov (.lit (.int .i64 0))⟩])
 (.seq (.seq (.reg [⟨(some 3), none, .mov (.tmp 0)⟩,
 ⟨(some 4), none, .bin .eql (.tmp 3) (.lit (.int .u64 0))⟩])
 (.cond (.tmp 4) (.seq (.reg [⟨(some 2), none, .mov (.lit (.int .i64 64))⟩])
 (.ret))
 (.skip)))
 (.seq (.reg [⟨(some 5), none, .mov (.tmp 0)⟩,
 ⟨(some 6), none, .mov (.tmp 0)⟩,
 ⟨(some 7), none, .un .neg (.tmp 6)⟩,
 ⟨(some 8), none, .bin .and (.tmp 5) (.tmp 7)⟩,
 ⟨(some 9), none, .bin .mul (.tmp 8) (.lit (.int .u64 285870213051353865))⟩,
 ⟨(some 10), none, .bin .shr (.tmp 9) (.lit (.int .u64 58))⟩,
 ⟨(some 11), none, .iaddrA 64 1 (.tr (.ptr (tabT tab64) 0)) (.tmp 10)⟩,
 ⟨(some 12), none, .load false 1 (.tmp 11)⟩,
 ⟨(some 13), none, .conv .i64 (.tmp 12)⟩,
 ⟨(some 2), none, .mov (.tmp 13)⟩])
 (.ret)))
theorem k93 : FnC Tryd.prog 93 14 [] [] [.tmp 2] c93 1 := ⟨Tryd.f93, _, Tryd.func93, rfl, by decide, rfl, by decide, by kernel_rfl, by kernel_rfl⟩
/-- (*dipworks/surf.goer).see -/
def c109 : AC :=
 .seq (.reg [⟨(some 4), none, .box (.tmp 1)⟩])
 (.seq (.reg [⟨(some 7), none, .faddr 5 (.tmp 4)⟩,
 ⟨(some 8), none, .load false 1 (.tmp 7)⟩,
 ⟨(some 6), none, .mov (.tmp 8)⟩])
 (.seq (.seq (.reg [⟨(some 9), none, .mov (.tmp 2)⟩,
 ⟨(some 10), none, .mov (.tmp 9)⟩,
 ⟨(some 11), (some (10, true)), .faddr 3 (.tmp 4)⟩,
 ⟨(some 12), (some (10, true)), .faddr 1 (.tmp 11)⟩,
 ⟨(some 13), (some (10, true)), .load false 1 (.tmp 12)⟩,
 ⟨(some 14), (some (10, true)), .faddr 0 (.tmp 4)⟩,
 ⟨(some 15), (some (10, true)), .faddr 1 (.tmp 14)⟩,
 ⟨(some 16), (some (10, true)), .load false 1 (.tmp 15)⟩,
 ⟨(some 17), (some (10, true)), .bin .gtr (.tmp 13) (.tmp 16)⟩,
 ⟨(some 18), none, .pick (.tmp 10) (.tmp 17) (.lit (.bool false))⟩])
 (.cond (.tmp 18) (.reg [⟨(some 19), none, .mov (.tmp 6)⟩,
 ⟨(some 20), none, .call (.fn 110) [(.tmp 19)]⟩,
 ⟨(some 6), none, .mov (.tmp 20)⟩])
 (.skip)))
 (.reg [⟨(some 21), none, .mov (.tmp 0)⟩,
 ⟨(some 22), none, .mov (.tmp 0)⟩,
 ⟨(some 23), none, .nilck (.tmp 22)⟩,
 ⟨(some 24), none, .faddr 0 (.tmp 23)⟩,
 ⟨(some 25), none, .load false 1 (.tmp 24)⟩,
 ⟨(some 26), none, .mov (.tmp 6)⟩,
 ⟨(some 27), none, .bslice 1 (.int .u64 0) 2 [(0, (.tmp 25)), (1, (.tmp 26))]⟩,
 ⟨(some 28), none, .call (.fn 111) [(.tmp 27)]⟩,
 ⟨(some 29), none, .nilck (.tmp 21)⟩,
 ⟨(some 30), none, .faddr 0 (.tmp 29)⟩,
 ⟨none, none, .store 1 (.tmp 30) (.tmp 28)⟩])))
theorem k109 : FnC Tryd.prog 109 31 [] [] [] c109 3 := ⟨Tryd.f109, _, Tryd.func109, rfl, by decide, rfl, by decide, by kernel_rfl, by kernel_rfl⟩
/-- (dipworks/surf.places).out -/
def c110 : AC :=
 .seq (.reg [⟨(some 2), none, .mov (.lit (.int .u64 0))⟩])
 (.seq (.reg [⟨(some 3), none, .mov (.tmp 0)⟩,
 ⟨(some 4), none, .bin .shr (.tmp 3) (.lit (.int .u64 1))⟩,
 ⟨(some 2), none, .mov (.tmp 4)⟩])
 (.ret))
theorem k110 : FnC Tryd.prog 110 5 [] [] [.tmp 2] c110 1 := ⟨Tryd.f110, _, Tryd.func110, rfl, by decide, rfl, by decide, by kernel_rfl, by kernel_rfl⟩
/-- dipworks/surf.joined -/
def c111 : AC :=
 .seq (.reg [⟨(some 2), none, .mov (.lit (.int .u64 0))⟩])
 (.seq (.seq (.reg [⟨(some 5), none, .mov (.tmp 0)⟩,
 ⟨(some 6), none, .len (.tmp 5)⟩,
 ⟨(some 7), none, .mov (.lit (.int .i64 0))⟩])
 (.block 0 (.loop (.seq (.reg [⟨(some 8), none, .bin .lss (.tmp 7) (.tmp 6)⟩])
 (.seq (.cond (.tmp 8) (.skip)
 (.exit 0))
 (.seq (.block 1 (.seq (.reg [⟨(some 9), none, .iaddr 1 (.tmp 5) (.tmp 7)⟩,
 ⟨(some 10), none, .load false 1 (.tmp 9)⟩,
 ⟨(some 4), none, .mov (.tmp 10)⟩])
 (.reg [⟨(some 11), none, .mov (.tmp 2)⟩,
 ⟨(some 12), none, .mov (.tmp 4)⟩,
 ⟨(some 13), none, .bin .or (.tmp 11) (.tmp 12)⟩,
 ⟨(some 2), none, .mov (.tmp 13)⟩])))
 (.reg [⟨(some 14), none, .bin .add (.tmp 7) (.lit (.int .i64 1))⟩,
 ⟨(some 7), none, .mov (.tmp 14)⟩])))))))
 (.seq (.reg [⟨(some 15), none, .mov (.tmp 2)⟩,
 ⟨(some 2), none, .mov (.tmp 15)⟩])
 (.ret)))
theorem k111 : FnC Tryd.prog 111 16 [] [] [.tmp 2] c111 1 := ⟨Tryd.f111, _, Tryd.func111, rfl, by decide, rfl, by decide, by kernel_rfl, by kernel_rfl⟩
/-- (*dipworks/surf.tally).see -/
def c112 : AC :=
 .seq (.reg [⟨(some 4), none, .box (.tmp 1)⟩])
 (.draw (.step ⟨(some 6), none, .mov (.tmp 0)⟩ (
 .step ⟨(some 7), none, .mov (.tmp 0)⟩ (
 .step ⟨(some 8), none, .mov (.tmp 0)⟩ (
 .step ⟨(some 9), none, .nilck (.tmp 8)⟩ (
 .step ⟨(some 10), none, .faddr 0 (.tmp 9)⟩ (
 .step ⟨(some 11), none, .load false 1 (.tmp 10)⟩ (
 .step ⟨(some 12), none, .mov (.tmp 11)⟩ (
 .step ⟨(some 13), (some (12, false)), .mov (.tmp 2)⟩ (
 .step ⟨(some 14), none, .pick (.tmp 12) (.lit (.bool true)) (.tmp 13)⟩ (
 .step ⟨(some 15), none, .mov (.tmp 0)⟩ (
 .step ⟨(some 16), none, .nilck (.tmp 15)⟩ (
 .step ⟨(some 17), none, .faddr 1 (.tmp 16)⟩ (
 .step ⟨(some 18), none, .load false 1 (.tmp 17)⟩ (
 .step ⟨(some 19), none, .mov (.tmp 18)⟩ (
 .step ⟨(some 20), (some (19, false)), .mov (.tmp 2)⟩ (
 .step ⟨(some 21), (some (19, false)), .un .not (.tmp 20)⟩ (
 .step ⟨(some 22), none, .pick (.tmp 19) (.lit (.bool true)) (.tmp 21)⟩ (
 .step ⟨(some 23), none, .nilck (.tmp 6)⟩ (
 .step ⟨(some 24), none, .faddr 0 (.tmp 23)⟩ (
 .ev ⟨none, none, .store 1 (.tmp 24) (.tmp 14)⟩ [⟨(some 23), none, .nilck (.tmp 6)⟩, ⟨(some 17), none, .faddr 1 (.tmp 16)⟩, ⟨(some 16), none, .nilck (.tmp 15)⟩] (
 .step ⟨(some 25), none, .nilck (.tmp 7)⟩ (
 .step ⟨(some 26), none, .faddr 1 (.tmp 25)⟩ (
 .ev ⟨none, none, .store 1 (.tmp 26) (.tmp 22)⟩ [⟨(some 25), none, .nilck (.tmp 7)⟩] (
 .done)
 (.stop))))
 (.stop))))))))))))))))))))))
theorem k112 : FnC Tryd.prog 112 27 [] [] [] c112 3 := ⟨Tryd.f112, _, Tryd.func112, rfl, by decide, rfl, by decide, by kernel_rfl, by kernel_rfl⟩
end Go.Proofs.YtmahocdmkpigjaaDoor

/- Surfs as data; small functions of package surf. -/
namespace Go.Proofs.YtmahocdmkpigjaaDoor
open Go Go.Ab

structure Hu where
  floor : Int
  brake : Int
  row : Int
abbrev Sp := Int × Int
structure Su where
  rows : Int
  step : Int
  water : List Sp
  waves : List Sp
  huts : List Hu

def tSp (x : Sp) : T := .agg [vi x.1, vi x.2]
def tHu (h : Hu) : T := .agg [vi h.floor, vi h.brake, vi h.row]
def su5 (s : Su) : List T := [vi s.rows, vi s.step, .slice 2 (s.water.map tSp), .slice 2 (s.waves.map tSp), .slice 3 (s.huts.map tHu)]

def wI (n lo hi : Int) : Bool := decide (lo ≤ n ∧ n ≤ hi)
theorem wI_eq (n lo hi : Int) : wI n lo hi = (decide (lo ≤ n) && decide (n ≤ hi)) := by unfold wI; rw [Bool.eq_iff_iff]; simp
def nearB (x : Sp) (high : Int) : Bool := decide (0 ≤ x.1) && decide (x.1 ≤ x.2) && decide (x.2 ≤ high) && decide (x.2 - x.1 ≤ 3)
def Hu.ok (rows : Int) (h : Hu) : Bool := wI h.floor 0 40 && wI h.brake 0 10 && wI h.row 0 (rows - 1)
def Su.ok (s : Su) : Bool := wI s.rows 1 6 && wI s.step 0 4 && decide (s.water.length ≤ 8) && decide (s.waves.length = s.water.length) && decide (s.huts.length ≤ 5) &&
  (s.water.all (nearB · 30) && s.waves.all (nearB · 10)) && s.huts.all (Hu.ok s.rows)
abbrev Near (x : Sp) (high : Int) : Prop := 0 ≤ x.1 ∧ x.1 ≤ x.2 ∧ x.2 ≤ high ∧ x.2 - x.1 ≤ 3
abbrev Hu.OK (rows : Int) (h : Hu) : Prop := 0 ≤ h.floor ∧ h.floor ≤ 40 ∧ 0 ≤ h.brake ∧ h.brake ≤ 10 ∧ 0 ≤ h.row ∧ h.row < rows
structure Su.OK (s : Su) : Prop where
  rows : 1 ≤ s.rows ∧ s.rows ≤ 6
  step : 0 ≤ s.step ∧ s.step ≤ 4
  nw : s.water.length ≤ 8
  nv : s.waves.length = s.water.length
  nh : s.huts.length ≤ 5
  water : ∀ x ∈ s.water, Near x 30
  waves : ∀ x ∈ s.waves, Near x 10
  huts : ∀ h ∈ s.huts, h.OK s.rows
theorem nearB_iff (x : Sp) (high : Int) : nearB x high = true ↔ Near x high := by simp [nearB, Near]; omega
theorem Hu.ok_iff (rows : Int) (h : Hu) : h.ok rows = true ↔ h.OK rows := by simp [Hu.ok, Hu.OK, wI]; omega
theorem Su.ok_iff (s : Su) : s.ok = true ↔ s.OK := by
  unfold Su.ok
  simp only [Bool.and_eq_true, decide_eq_true_eq, List.all_eq_true, Hu.ok_iff, nearB_iff, wI]
  constructor
  · rintro ⟨⟨⟨⟨⟨⟨h1, h2⟩, h3⟩, h4⟩, h5⟩, h6, h7⟩, h8⟩
    exact ⟨h1, h2, h3, h4, h5, h6, h7, h8⟩
  · rintro ⟨h1, h2, h3, h4, h5, h6, h7, h8⟩
    exact ⟨⟨⟨⟨⟨⟨h1, h2⟩, h3⟩, h4⟩, h5⟩, h6, h7⟩, h8⟩

theorem within_ok (n lo hi : Int) : ACall Tryd.prog 46 [.t (vi n), .t (vi lo), .t (vi hi)] [] (ret (vb (wI n lo hi))) := by
  refine ACall.walk k46 ?_
  unfold c46
  rw [wI_eq]
  simp only [go_sem, Nat.reduceEqDiff, Nat.reduceAdd, Nat.reduceSub, Nat.reduceMul, Nat.reduceLT, Nat.reduceLeDiff, Nat.reduceMod, Nat.reduceDiv, Int.reduceToNat, Int.reduceLT, Int.reduceLE, Bool.not_true, Bool.not_false, reduceIte]
  cases hA : decide (lo ≤ n)
  · simp only [go_sem, Nat.reduceEqDiff, Nat.reduceAdd, Nat.reduceSub, Nat.reduceMul, Nat.reduceLT, Nat.reduceLeDiff, Nat.reduceMod, Nat.reduceDiv, Int.reduceToNat, Int.reduceLT, Int.reduceLE, Bool.not_true, Bool.not_false, reduceIte, undef, hA]
    exact finL_ret [] ⟨rfl, rfl, rfl, rfl, _, rfl, res_mk rfl⟩
  · simp only [go_sem, Nat.reduceEqDiff, Nat.reduceAdd, Nat.reduceSub, Nat.reduceMul, Nat.reduceLT, Nat.reduceLeDiff, Nat.reduceMod, Nat.reduceDiv, Int.reduceToNat, Int.reduceLT, Int.reduceLE, Bool.not_true, Bool.not_false, reduceIte, undef, hA]
    exact finL_ret [] ⟨rfl, rfl, rfl, rfl, _, rfl, res_mk rfl⟩

def rfs (e : Int) : T := .iface 111 (vi e)
abbrev askO (is : Bool) (e : Int) : Out := if is then .ret (.tup []) else .pan (rfs e)
theorem ask_ok (is : Bool) (e : Int) : ACall Tryd.prog 63 [.t (vb is), .t (vi e)] [] (res (askO is e)) := by
  refine ACall.walk k63 ?_
  unfold c63
  cases is
  all_goals simp only [go_sem, Nat.reduceEqDiff, Nat.reduceAdd, Nat.reduceSub, Nat.reduceMul, Nat.reduceLT, Nat.reduceLeDiff, Nat.reduceMod, Nat.reduceDiv, Int.reduceToNat, Int.reduceLT, Int.reduceLE, Bool.not_true, Bool.not_false, reduceIte, Int.reduceEq, Int.reduceBEq, Int.reduceBNe, Int.reduceGT, Int.reduceGE, Int.reduceNeg, Int.reduceAdd, Int.reduceSub, Nat.reduceBEq, decide_true, decide_false, undef, beq_self_eq_true, bne_self_eq_false, Bool.and_true, Bool.true_and, Bool.and_false, Bool.false_and, Bool.or_true, Bool.true_or, Bool.or_false, Bool.false_or]
  · exact finL_pan [] ⟨rfl, rfl, rfl, rfl, res_mk rfl⟩
  · exact finL_ret [] ⟨rfl, rfl, rfl, rfl, _, rfl, res_mk (by simp [E.gc])⟩
theorem answer_pan {σ : List AO} {id : Nat} {x : E} {e : Int} (h : σ[id]? = some (.cells [x])) : ADef Tryd.prog 43 [.ptr id 0] σ (some (rfs e)) fun σ' => σ' = σ.set id (.cells [.t (vi e)]) := by
  refine ADef.walk a43 ?_
  unfold c43
  simp only [pxT, rfs, go_sem, Nat.reduceEqDiff, Nat.reduceAdd, Nat.reduceSub, Nat.reduceMul, Nat.reduceLT, Nat.reduceLeDiff, Nat.reduceMod, Nat.reduceDiv, Int.reduceToNat, Int.reduceLT, Int.reduceLE, Bool.not_true, Bool.not_false, reduceIte, h]
theorem answer_none {σ : List AO} {a : E} : ADef Tryd.prog 43 [a] σ none fun σ' => σ' = σ := by
  refine ADef.walk a43 ?_
  unfold c43
  simp only [pxT, go_sem, Nat.reduceEqDiff, Nat.reduceAdd, Nat.reduceSub, Nat.reduceMul, Nat.reduceLT, Nat.reduceLeDiff, Nat.reduceMod, Nat.reduceDiv, Int.reduceToNat, Int.reduceLT, Int.reduceLE, Bool.not_true, Bool.not_false, reduceIte]

def deepI (step w row : Int) : Int := max 0 (w - step * row)
theorem depth_ok (a b c d e : T) (step w row : Int) (h1 : -9223372036854775808 ≤ step * row ∧ step * row < 9223372036854775808) (h2 : -9223372036854775808 ≤ w - step * row ∧ w - step * row < 9223372036854775808) : ACall Tryd.prog 47 [.t (.ptr (.agg [a, vi step, b, c, d, e]) 0), .t (vi w), .t (vi row)] [] (ret (vi (deepI step w row))) := by
  refine ACall.walk k47 ?_
  unfold c47
  have w1 : IntKind.i64.wrap (step * row) = step * row := wrap_id h1.1 h1.2
  have w2 : IntKind.i64.wrap (w - step * row) = w - step * row := wrap_id h2.1 h2.2
  simp only [go_sem, Nat.reduceEqDiff, Nat.reduceAdd, Nat.reduceSub, Nat.reduceMul, Nat.reduceLT, Nat.reduceLeDiff, Nat.reduceMod, Nat.reduceDiv, Int.reduceToNat, Int.reduceLT, Int.reduceLE, Bool.not_true, Bool.not_false, reduceIte, Int.reduceEq, Int.reduceBEq, Int.reduceBNe, Int.reduceGT, Int.reduceGE, Int.reduceNeg, Int.reduceAdd, Int.reduceSub, Nat.reduceBEq, decide_true, decide_false, undef, beq_self_eq_true, bne_self_eq_false, Bool.and_true, Bool.true_and, Bool.and_false, Bool.false_and, Bool.or_true, Bool.true_or, Bool.or_false, Bool.false_or, w1, w2]
  exact finL_ret [] ⟨rfl, rfl, rfl, rfl, _, rfl, res_mk rfl⟩

abbrev Lens (s : Su) : Prop := s.water.length < 9223372036854775808 ∧ s.waves.length < 9223372036854775808 ∧ s.huts.length < 9223372036854775808
def Su.isHour (s : Su) (n : Int) : Bool := wI n 0 (s.water.length - 1)
def Su.isHut (s : Su) (n : Int) : Bool := wI n 0 (s.huts.length - 1)
theorem isHour_iff {s : Su} {n : Int} : s.isHour n = true ↔ 0 ≤ n ∧ n < s.water.length := by unfold Su.isHour wI; simp; omega
theorem isHut_iff {s : Su} {n : Int} : s.isHut n = true ↔ 0 ≤ n ∧ n < s.huts.length := by unfold Su.isHut wI; simp; omega
theorem isHour_ok (s : Su) (hl : Lens s) (n : Int) : ACall Tryd.prog 45 [.t (.agg (su5 s)), .t (vi n)] [] (ret (vb (s.isHour n))) := by
  refine ACall.walk k45 ?_
  unfold c45 su5
  have w1 : IntKind.i64.wrap ((s.water.length : Int) - 1) = s.water.length - 1 := wrap_id (by omega) (by omega)
  simp only [go_sem, Nat.reduceEqDiff, Nat.reduceAdd, Nat.reduceSub, Nat.reduceMul, Nat.reduceLT, Nat.reduceLeDiff, Nat.reduceMod, Nat.reduceDiv, Int.reduceToNat, Int.reduceLT, Int.reduceLE, Bool.not_true, Bool.not_false, reduceIte, Int.reduceEq, Int.reduceBEq, Int.reduceBNe, Int.reduceGT, Int.reduceGE, Int.reduceNeg, Int.reduceAdd, Int.reduceSub, Nat.reduceBEq, decide_true, decide_false, undef, beq_self_eq_true, bne_self_eq_false, Bool.and_true, Bool.true_and, Bool.and_false, Bool.false_and, Bool.or_true, Bool.true_or, Bool.or_false, Bool.false_or, List.length_map, w1]
  refine ACallL.quiet1 (within_ok _ _ _) rfl rfl rfl ?_
  simp only [go_sem, Nat.reduceEqDiff, Nat.reduceAdd, Nat.reduceSub, Nat.reduceMul, Nat.reduceLT, Nat.reduceLeDiff, Nat.reduceMod, Nat.reduceDiv, Int.reduceToNat, Int.reduceLT, Int.reduceLE, Bool.not_true, Bool.not_false, reduceIte, Int.reduceEq, Int.reduceBEq, Int.reduceBNe, Int.reduceGT, Int.reduceGE, Int.reduceNeg, Int.reduceAdd, Int.reduceSub, Nat.reduceBEq, decide_true, decide_false, undef, beq_self_eq_true, bne_self_eq_false, Bool.and_true, Bool.true_and, Bool.and_false, Bool.false_and, Bool.or_true, Bool.true_or, Bool.or_false, Bool.false_or]
  exact finL_ret [] ⟨rfl, rfl, rfl, rfl, _, rfl, res_mk rfl⟩
theorem isHut_ok (s : Su) (hl : Lens s) (n : Int) : ACall Tryd.prog 52 [.t (.agg (su5 s)), .t (vi n)] [] (ret (vb (s.isHut n))) := by
  refine ACall.walk k52 ?_
  unfold c52 su5
  have w1 : IntKind.i64.wrap ((s.huts.length : Int) - 1) = s.huts.length - 1 := wrap_id (by omega) (by omega)
  simp only [go_sem, Nat.reduceEqDiff, Nat.reduceAdd, Nat.reduceSub, Nat.reduceMul, Nat.reduceLT, Nat.reduceLeDiff, Nat.reduceMod, Nat.reduceDiv, Int.reduceToNat, Int.reduceLT, Int.reduceLE, Bool.not_true, Bool.not_false, reduceIte, Int.reduceEq, Int.reduceBEq, Int.reduceBNe, Int.reduceGT, Int.reduceGE, Int.reduceNeg, Int.reduceAdd, Int.reduceSub, Nat.reduceBEq, decide_true, decide_false, undef, beq_self_eq_true, bne_self_eq_false, Bool.and_true, Bool.true_and, Bool.and_false, Bool.false_and, Bool.or_true, Bool.true_or, Bool.or_false, Bool.false_or, List.length_map, w1]
  refine ACallL.quiet1 (within_ok _ _ _) rfl rfl rfl ?_
  simp only [go_sem, Nat.reduceEqDiff, Nat.reduceAdd, Nat.reduceSub, Nat.reduceMul, Nat.reduceLT, Nat.reduceLeDiff, Nat.reduceMod, Nat.reduceDiv, Int.reduceToNat, Int.reduceLT, Int.reduceLE, Bool.not_true, Bool.not_false, reduceIte, Int.reduceEq, Int.reduceBEq, Int.reduceBNe, Int.reduceGT, Int.reduceGE, Int.reduceNeg, Int.reduceAdd, Int.reduceSub, Nat.reduceBEq, decide_true, decide_false, undef, beq_self_eq_true, bne_self_eq_false, Bool.and_true, Bool.true_and, Bool.and_false, Bool.false_and, Bool.or_true, Bool.true_or, Bool.or_false, Bool.false_or]
  exact finL_ret [] ⟨rfl, rfl, rfl, rfl, _, rfl, res_mk rfl⟩

/-! ### Places, as sets -/
abbrev vu (n : Int) : T := .lit (.int .u64 n)
theorem u64_nat {a : Nat} (h : a < 18446744073709551616) : IntKind.u64.wrap (a : Int) = a := by
  simp only [IntKind.wrap, IntKind.signed, IntKind.bits, Bool.false_eq_true, if_false]
  exact Int.emod_eq_of_lt (by omega) (by omega)
theorem ubits_and {a b : Nat} (ha : a < 18446744073709551616) (hb : b < 18446744073709551616) : bits .and .u64 a b = ((a &&& b : Nat) : Int) := by
  have h1 : (BitVec.ofInt IntKind.u64.bits (a : Int) &&& BitVec.ofInt IntKind.u64.bits (b : Int)).toNat = a &&& b := by
    rw [BitVec.toNat_and, BitVec.ofInt_natCast, BitVec.ofInt_natCast, BitVec.toNat_ofNat, BitVec.toNat_ofNat]
    simp only [IntKind.bits]
    rw [Nat.mod_eq_of_lt (by omega), Nat.mod_eq_of_lt (by omega)]
  unfold bits
  simp only [h1]
  exact u64_nat (Nat.lt_of_le_of_lt Nat.and_le_left ha)
theorem ubits_or {a b : Nat} (ha : a < 18446744073709551616) (hb : b < 18446744073709551616) : bits .or .u64 a b = ((a ||| b : Nat) : Int) := by
  have h1 : (BitVec.ofInt IntKind.u64.bits (a : Int) ||| BitVec.ofInt IntKind.u64.bits (b : Int)).toNat = a ||| b := by
    rw [BitVec.toNat_or, BitVec.ofInt_natCast, BitVec.ofInt_natCast, BitVec.toNat_ofNat, BitVec.toNat_ofNat]
    simp only [IntKind.bits]
    rw [Nat.mod_eq_of_lt (by omega), Nat.mod_eq_of_lt (by omega)]
  unfold bits
  simp only [h1]
  exact u64_nat (Nat.or_lt_two_pow (n := 64) (by omega) (by omega))

theorem dec7 {p : Nat → Prop} [DecidablePred p] {n : Nat} (h : ((List.range n).all fun n => decide (p n)) = true) (k : Nat) (hk : k < n) : p k := by
  have := List.all_eq_true.mp h k (List.mem_range.mpr hk)
  simpa using this
theorem at_ok (r : Nat) (hr : r < 6) : ACall Tryd.prog 79 [.t (vi r)] [] (ret (vu (2 ^ (r + 1) : Nat))) := by
  refine ACall.walk k79 ?_
  unfold c79
  have h0 : ((r : Int) < 0) = False := by simp
  have hs : IntKind.u64.wrap (2 * 2 ^ (min r 64)) = ((2 ^ (r + 1) : Nat) : Int) := dec7 (p := fun r => IntKind.u64.wrap (2 * 2 ^ (min r 64)) = ((2 ^ (r + 1) : Nat) : Int)) (n := 6) (by decide +kernel) r hr
  simp only [go_sem, Nat.reduceEqDiff, Nat.reduceAdd, Nat.reduceSub, Nat.reduceMul, Nat.reduceLT, Nat.reduceLeDiff, Nat.reduceMod, Nat.reduceDiv, Int.reduceToNat, Int.reduceLT, Int.reduceLE, Bool.not_true, Bool.not_false, reduceIte, Int.reduceEq, Int.reduceBEq, Int.reduceBNe, Int.reduceGT, Int.reduceGE, Int.reduceNeg, Int.reduceAdd, Int.reduceSub, Nat.reduceBEq, decide_true, decide_false, undef, beq_self_eq_true, bne_self_eq_false, Bool.and_true, Bool.true_and, Bool.and_false, Bool.false_and, Bool.or_true, Bool.true_or, Bool.or_false, Bool.false_or, h0, hs]
  exact finL_ret [] ⟨rfl, rfl, rfl, rfl, _, rfl, res_mk rfl⟩
theorem ushr1 {p : Nat} (hp : p < 256) : ((p : Int)).fdiv (2 ^ (min 1 64)) = ((p / 2 : Nat) : Int) := by
  rw [shr_nat (by omega), Nat.shiftRight_eq_div_pow]
theorem out_ok (p : Nat) (hp : p < 256) : ACall Tryd.prog 110 [.t (vu p)] [] (ret (vu (p / 2 : Nat))) := by
  refine ACall.walk k110 ?_
  unfold c110
  simp only [go_sem, Nat.reduceEqDiff, Nat.reduceAdd, Nat.reduceSub, Nat.reduceMul, Nat.reduceLT, Nat.reduceLeDiff, Nat.reduceMod, Nat.reduceDiv, Int.reduceToNat, Int.reduceLT, Int.reduceLE, Bool.not_true, Bool.not_false, reduceIte, Int.reduceEq, Int.reduceBEq, Int.reduceBNe, Int.reduceGT, Int.reduceGE, Int.reduceNeg, Int.reduceAdd, Int.reduceSub, Nat.reduceBEq, decide_true, decide_false, undef, beq_self_eq_true, bne_self_eq_false, Bool.and_true, Bool.true_and, Bool.and_false, Bool.false_and, Bool.or_true, Bool.true_or, Bool.or_false, Bool.false_or, ushr1 hp]
  exact finL_ret [] ⟨rfl, rfl, rfl, rfl, _, rfl, res_mk rfl⟩
theorem rows_ok (p : Nat) (hp : p < 256) : ACall Tryd.prog 55 [.t (vu p)] [] (ret (vi (p / 2 : Nat))) := by
  refine ACall.walk k55 ?_
  unfold c55
  have hw : IntKind.i64.wrap ((p / 2 : Nat) : Int) = ((p / 2 : Nat) : Int) := wrap_id (by omega) (by omega)
  simp only [go_sem, Nat.reduceEqDiff, Nat.reduceAdd, Nat.reduceSub, Nat.reduceMul, Nat.reduceLT, Nat.reduceLeDiff, Nat.reduceMod, Nat.reduceDiv, Int.reduceToNat, Int.reduceLT, Int.reduceLE, Bool.not_true, Bool.not_false, reduceIte, Int.reduceEq, Int.reduceBEq, Int.reduceBNe, Int.reduceGT, Int.reduceGE, Int.reduceNeg, Int.reduceAdd, Int.reduceSub, Nat.reduceBEq, decide_true, decide_false, undef, beq_self_eq_true, bne_self_eq_false, Bool.and_true, Bool.true_and, Bool.and_false, Bool.false_and, Bool.or_true, Bool.true_or, Bool.or_false, Bool.false_or, ushr1 hp, hw]
  exact finL_ret [] ⟨rfl, rfl, rfl, rfl, _, rfl, res_mk rfl⟩
theorem lost_bit {p : Nat} (hp : p < 18446744073709551616) : (bits .and .u64 (p : Int) 1 == 1) = p.testBit 0 := by
  rw [show (1 : Int) = ((1 : Nat) : Int) from rfl, ubits_and hp (by omega), Nat.and_one_is_mod, Nat.testBit_zero]
  have := Nat.mod_two_eq_zero_or_one p
  rcases this with h | h <;> rw [h] <;> rfl
theorem lost_ok (p : Nat) (hp : p < 256) : ACall Tryd.prog 54 [.t (vu p)] [] (ret (vb (p.testBit 0))) := by
  refine ACall.walk k54 ?_
  unfold c54
  simp only [go_sem, Nat.reduceEqDiff, Nat.reduceAdd, Nat.reduceSub, Nat.reduceMul, Nat.reduceLT, Nat.reduceLeDiff, Nat.reduceMod, Nat.reduceDiv, Int.reduceToNat, Int.reduceLT, Int.reduceLE, Bool.not_true, Bool.not_false, reduceIte, Int.reduceEq, Int.reduceBEq, Int.reduceBNe, Int.reduceGT, Int.reduceGE, Int.reduceNeg, Int.reduceAdd, Int.reduceSub, Nat.reduceBEq, decide_true, decide_false, undef, beq_self_eq_true, bne_self_eq_false, Bool.and_true, Bool.true_and, Bool.and_false, Bool.false_and, Bool.or_true, Bool.true_or, Bool.or_false, Bool.false_or, lost_bit (show p < 18446744073709551616 by omega)]
  exact finL_ret [] ⟨rfl, rfl, rfl, rfl, _, rfl, res_mk rfl⟩
theorem joined_ok (p q : Nat) (hp : p < 256) (hq : q < 256) : ACall Tryd.prog 111 [.t (.slice 1 [vu p, vu q])] [] (ret (vu (p ||| q : Nat))) := by
  refine ACall.walk k111 ?_
  unfold c111
  simp only [go_sem, Nat.reduceEqDiff, Nat.reduceAdd, Nat.reduceSub, Nat.reduceMul, Nat.reduceLT, Nat.reduceLeDiff, Nat.reduceMod, Nat.reduceDiv, Int.reduceToNat, Int.reduceLT, Int.reduceLE, Bool.not_true, Bool.not_false, reduceIte, Int.reduceEq, Int.reduceBEq, Int.reduceBNe, Int.reduceGT, Int.reduceGE, Int.reduceNeg, Int.reduceAdd, Int.reduceSub, Nat.reduceBEq, decide_true, decide_false, undef, beq_self_eq_true, bne_self_eq_false, Bool.and_true, Bool.true_and, Bool.and_false, Bool.false_and, Bool.or_true, Bool.true_or, Bool.or_false, Bool.false_or]
  have o1 : bits .or .u64 0 (p : Int) = ((p : Nat) : Int) := by
    have := ubits_or (a := 0) (b := p) (by omega) (by omega)
    rw [Nat.zero_or] at this
    exact this
  have o2 := ubits_or (a := p) (b := q) (by omega) (by omega)
  refine awpL_for (i := 7) (L := 6) 2 (fun j s => s = { env := [(7, .t (vi j)), (6, .t (vi 2)), (5, .t (.slice 1 [vu p, vu q])), (2, .t (vu (if j = 0 then 0 else if j = 1 then (p : Int) else (p ||| q : Nat))))], σ := [] }) ?_ ⟨_, Sub.gc [] [7, 6, 5, 2] rfl rfl, rfl⟩ ?_ ?_
  · rintro k s rfl; exact ⟨rfl, rfl⟩
  · rintro j s hj rfl
    have : j = 0 ∨ j = 1 := by omega
    rcases this with rfl | rfl
    · simp only [go_sem, Nat.reduceEqDiff, Nat.reduceAdd, Nat.reduceSub, Nat.reduceMul, Nat.reduceLT, Nat.reduceLeDiff, Nat.reduceMod, Nat.reduceDiv, Int.reduceToNat, Int.reduceLT, Int.reduceLE, Bool.not_true, Bool.not_false, reduceIte, Int.reduceEq, Int.reduceBEq, Int.reduceBNe, Int.reduceGT, Int.reduceGE, Int.reduceNeg, Int.reduceAdd, Int.reduceSub, Nat.reduceBEq, decide_true, decide_false, undef, beq_self_eq_true, bne_self_eq_false, Bool.and_true, Bool.true_and, Bool.and_false, Bool.false_and, Bool.or_true, Bool.true_or, Bool.or_false, Bool.false_or, o1, undef]
      exact ⟨_, Sub.gc [] [7, 6, 5, 2] rfl rfl, rfl⟩
    · simp only [go_sem, Nat.reduceEqDiff, Nat.reduceAdd, Nat.reduceSub, Nat.reduceMul, Nat.reduceLT, Nat.reduceLeDiff, Nat.reduceMod, Nat.reduceDiv, Int.reduceToNat, Int.reduceLT, Int.reduceLE, Bool.not_true, Bool.not_false, reduceIte, Int.reduceEq, Int.reduceBEq, Int.reduceBNe, Int.reduceGT, Int.reduceGE, Int.reduceNeg, Int.reduceAdd, Int.reduceSub, Nat.reduceBEq, decide_true, decide_false, undef, beq_self_eq_true, bne_self_eq_false, Bool.and_true, Bool.true_and, Bool.and_false, Bool.false_and, Bool.or_true, Bool.true_or, Bool.or_false, Bool.false_or, o2, undef]
      exact ⟨_, Sub.gc [] [7, 6, 5, 2] rfl rfl, rfl⟩
  · rintro s rfl
    simp only [go_sem, Nat.reduceEqDiff, Nat.reduceAdd, Nat.reduceSub, Nat.reduceMul, Nat.reduceLT, Nat.reduceLeDiff, Nat.reduceMod, Nat.reduceDiv, Int.reduceToNat, Int.reduceLT, Int.reduceLE, Bool.not_true, Bool.not_false, reduceIte, Int.reduceEq, Int.reduceBEq, Int.reduceBNe, Int.reduceGT, Int.reduceGE, Int.reduceNeg, Int.reduceAdd, Int.reduceSub, Nat.reduceBEq, decide_true, decide_false, undef, beq_self_eq_true, bne_self_eq_false, Bool.and_true, Bool.true_and, Bool.and_false, Bool.false_and, Bool.or_true, Bool.true_or, Bool.or_false, Bool.false_or, undef]
    exact finL_ret [] ⟨rfl, rfl, rfl, rfl, _, rfl, res_mk rfl⟩
theorem near_ok (x : Sp) (high : Int) (hh : high ≤ 100) : ACall Tryd.prog 78 [.t (tSp x), .t (vi high)] [] (ret (vb (nearB x high))) := by
  refine ACall.walk k78 ?_
  unfold c78 tSp nearB
  obtain ⟨lo, hi⟩ := x
  simp only [go_sem, Nat.reduceEqDiff, Nat.reduceAdd, Nat.reduceSub, Nat.reduceMul, Nat.reduceLT, Nat.reduceLeDiff, Nat.reduceMod, Nat.reduceDiv, Int.reduceToNat, Int.reduceLT, Int.reduceLE, Bool.not_true, Bool.not_false, reduceIte, Int.reduceEq, Int.reduceBEq, Int.reduceBNe, Int.reduceGT, Int.reduceGE, Int.reduceNeg, Int.reduceAdd, Int.reduceSub, Nat.reduceBEq, decide_true, decide_false, undef, beq_self_eq_true, bne_self_eq_false, Bool.and_true, Bool.true_and, Bool.and_false, Bool.false_and, Bool.or_true, Bool.true_or, Bool.or_false, Bool.false_or]
  cases h1 : decide (0 ≤ lo)
  · simp only [go_sem, Nat.reduceEqDiff, Nat.reduceAdd, Nat.reduceSub, Nat.reduceMul, Nat.reduceLT, Nat.reduceLeDiff, Nat.reduceMod, Nat.reduceDiv, Int.reduceToNat, Int.reduceLT, Int.reduceLE, Bool.not_true, Bool.not_false, reduceIte, Int.reduceEq, Int.reduceBEq, Int.reduceBNe, Int.reduceGT, Int.reduceGE, Int.reduceNeg, Int.reduceAdd, Int.reduceSub, Nat.reduceBEq, decide_true, decide_false, undef, beq_self_eq_true, bne_self_eq_false, Bool.and_true, Bool.true_and, Bool.and_false, Bool.false_and, Bool.or_true, Bool.true_or, Bool.or_false, Bool.false_or, undef, h1]
    exact finL_ret [] ⟨rfl, rfl, rfl, rfl, _, rfl, res_mk rfl⟩
  simp only [go_sem, Nat.reduceEqDiff, Nat.reduceAdd, Nat.reduceSub, Nat.reduceMul, Nat.reduceLT, Nat.reduceLeDiff, Nat.reduceMod, Nat.reduceDiv, Int.reduceToNat, Int.reduceLT, Int.reduceLE, Bool.not_true, Bool.not_false, reduceIte, Int.reduceEq, Int.reduceBEq, Int.reduceBNe, Int.reduceGT, Int.reduceGE, Int.reduceNeg, Int.reduceAdd, Int.reduceSub, Nat.reduceBEq, decide_true, decide_false, undef, beq_self_eq_true, bne_self_eq_false, Bool.and_true, Bool.true_and, Bool.and_false, Bool.false_and, Bool.or_true, Bool.true_or, Bool.or_false, Bool.false_or, undef, h1]
  cases h2 : decide (lo ≤ hi)
  · simp only [go_sem, Nat.reduceEqDiff, Nat.reduceAdd, Nat.reduceSub, Nat.reduceMul, Nat.reduceLT, Nat.reduceLeDiff, Nat.reduceMod, Nat.reduceDiv, Int.reduceToNat, Int.reduceLT, Int.reduceLE, Bool.not_true, Bool.not_false, reduceIte, Int.reduceEq, Int.reduceBEq, Int.reduceBNe, Int.reduceGT, Int.reduceGE, Int.reduceNeg, Int.reduceAdd, Int.reduceSub, Nat.reduceBEq, decide_true, decide_false, undef, beq_self_eq_true, bne_self_eq_false, Bool.and_true, Bool.true_and, Bool.and_false, Bool.false_and, Bool.or_true, Bool.true_or, Bool.or_false, Bool.false_or, undef, h1, h2]
    exact finL_ret [] ⟨rfl, rfl, rfl, rfl, _, rfl, res_mk rfl⟩
  have h1' := of_decide_eq_true h1
  have h2' := of_decide_eq_true h2
  simp only [go_sem, Nat.reduceEqDiff, Nat.reduceAdd, Nat.reduceSub, Nat.reduceMul, Nat.reduceLT, Nat.reduceLeDiff, Nat.reduceMod, Nat.reduceDiv, Int.reduceToNat, Int.reduceLT, Int.reduceLE, Bool.not_true, Bool.not_false, reduceIte, Int.reduceEq, Int.reduceBEq, Int.reduceBNe, Int.reduceGT, Int.reduceGE, Int.reduceNeg, Int.reduceAdd, Int.reduceSub, Nat.reduceBEq, decide_true, decide_false, undef, beq_self_eq_true, bne_self_eq_false, Bool.and_true, Bool.true_and, Bool.and_false, Bool.false_and, Bool.or_true, Bool.true_or, Bool.or_false, Bool.false_or, undef, h1, h2]
  cases h3 : decide (hi ≤ high)
  · simp only [go_sem, Nat.reduceEqDiff, Nat.reduceAdd, Nat.reduceSub, Nat.reduceMul, Nat.reduceLT, Nat.reduceLeDiff, Nat.reduceMod, Nat.reduceDiv, Int.reduceToNat, Int.reduceLT, Int.reduceLE, Bool.not_true, Bool.not_false, reduceIte, Int.reduceEq, Int.reduceBEq, Int.reduceBNe, Int.reduceGT, Int.reduceGE, Int.reduceNeg, Int.reduceAdd, Int.reduceSub, Nat.reduceBEq, decide_true, decide_false, undef, beq_self_eq_true, bne_self_eq_false, Bool.and_true, Bool.true_and, Bool.and_false, Bool.false_and, Bool.or_true, Bool.true_or, Bool.or_false, Bool.false_or, undef, h1, h2, h3]
    exact finL_ret [] ⟨rfl, rfl, rfl, rfl, _, rfl, res_mk rfl⟩
  · have h3' := of_decide_eq_true h3
    have hw : IntKind.i64.wrap (hi - lo) = hi - lo := wrap_id (by omega) (by omega)
    simp only [go_sem, Nat.reduceEqDiff, Nat.reduceAdd, Nat.reduceSub, Nat.reduceMul, Nat.reduceLT, Nat.reduceLeDiff, Nat.reduceMod, Nat.reduceDiv, Int.reduceToNat, Int.reduceLT, Int.reduceLE, Bool.not_true, Bool.not_false, reduceIte, Int.reduceEq, Int.reduceBEq, Int.reduceBNe, Int.reduceGT, Int.reduceGE, Int.reduceNeg, Int.reduceAdd, Int.reduceSub, Nat.reduceBEq, decide_true, decide_false, undef, beq_self_eq_true, bne_self_eq_false, Bool.and_true, Bool.true_and, Bool.and_false, Bool.false_and, Bool.or_true, Bool.true_or, Bool.or_false, Bool.false_or, undef, h1, h2, h3, hw]
    exact finL_ret [] ⟨rfl, rfl, rfl, rfl, _, rfl, res_mk rfl⟩
end Go.Proofs.YtmahocdmkpigjaaDoor

/- The memo; does a hut float; what looks at it. -/
namespace Go.Proofs.YtmahocdmkpigjaaDoor
open Go Go.Ab

/-! ### TrailingZeros64 at small powers of two -/
def c93g (m : Int) (tb : T) : AC :=
 .seq (.reg [⟨(some 2), none, .mov (.lit (.int .i64 0))⟩])
 (.seq (.seq (.reg [⟨(some 3), none, .mov (.tmp 0)⟩,
 ⟨(some 4), none, .bin .eql (.tmp 3) (.lit (.int .u64 0))⟩])
 (.cond (.tmp 4) (.seq (.reg [⟨(some 2), none, .mov (.lit (.int .i64 64))⟩])
 (.ret))
 (.skip)))
 (.seq (.reg [⟨(some 5), none, .mov (.tmp 0)⟩,
 ⟨(some 6), none, .mov (.tmp 0)⟩,
 ⟨(some 7), none, .un .neg (.tmp 6)⟩,
 ⟨(some 8), none, .bin .and (.tmp 5) (.tmp 7)⟩,
 ⟨(some 9), none, .bin .mul (.tmp 8) (.lit (.int .u64 m))⟩,
 ⟨(some 10), none, .bin .shr (.tmp 9) (.lit (.int .u64 58))⟩,
 ⟨(some 11), none, .iaddrA 64 1 (.tr (.ptr tb 0)) (.tmp 10)⟩,
 ⟨(some 12), none, .load false 1 (.tmp 11)⟩,
 ⟨(some 13), none, .conv .i64 (.tmp 12)⟩,
 ⟨(some 2), none, .mov (.tmp 13)⟩])
 (.ret)))
theorem c93_g : c93 = c93g 285870213051353865 (tabT tab64) := rfl
theorem tz_gen (m : Int) (cs : List T) (x : Int) (k j : Nat) (n2 : (x == 0) = false) (hj : j < 64) (hcs : cs[j]? = some (.lit (.int .u8 k))) (hk : k < 256)
    (d1 : (IntKind.u64.wrap (bits .and .u64 x (IntKind.u64.wrap (0 - x)) * m)).fdiv (2 ^ min 58 64) = (j : Int)) :
    @awpL { P := Tryd.prog, nb := 0, pn := [] } ⟨c93g m (.agg cs)⟩ ⟨fun e s => @finL 0 0 ⟨[.tmp 2]⟩ ⟨ret (vi k)⟩ e s⟩ { env := argEnv 0 [.t (.lit (.int .u64 x))], σ := [], df := [], k := 0 } := by
  unfold c93g
  have hw : IntKind.i64.wrap (k : Int) = k := wrap_id (by omega) (by omega)
  simp only [go_sem, Nat.reduceEqDiff, Nat.reduceAdd, Nat.reduceSub, Nat.reduceMul, Nat.reduceLT, Nat.reduceLeDiff, Nat.reduceMod, Nat.reduceDiv, Int.reduceToNat, Int.reduceLT, Int.reduceLE, Bool.not_true, Bool.not_false, reduceIte, Int.reduceEq, Int.reduceBEq, Int.reduceBNe, Int.reduceGT, Int.reduceGE, Int.reduceNeg, Int.reduceAdd, Int.reduceSub, Nat.reduceBEq, decide_true, decide_false, undef, beq_self_eq_true, bne_self_eq_false, Bool.and_true, Bool.true_and, Bool.and_false, Bool.false_and, Bool.or_true, Bool.true_or, Bool.or_false, Bool.false_or, n2, d1, Nat.mul_one, hcs, hw]
  refine ⟨by omega, ?_⟩
  exact finL_ret [] ⟨rfl, rfl, rfl, rfl, _, rfl, res_mk rfl⟩
def dB (k : Nat) : Nat := (2 ^ k * 285870213051353865 % 18446744073709551616) / 288230376151711744
theorem dB_ok : ∀ k : Nat, k < 8 → (IntKind.u64.wrap (bits .and .u64 ((2 ^ k : Nat) : Int) (IntKind.u64.wrap (0 - ((2 ^ k : Nat) : Int))) * 285870213051353865)).fdiv (2 ^ min 58 64) = (dB k : Int) := dec7 (by decide +kernel)
theorem tab64_at : ∀ k : Nat, k < 8 → dB k < 64 ∧ tab64[dB k]? = some k := dec7 (by decide +kernel)
theorem tz64_ok (k : Nat) (hk : k < 8) : ACall Tryd.prog 91 [.t (vu (2 ^ k : Nat))] [] (ret (vi k)) := by
  have h93 : ACall Tryd.prog 93 [.t (vu (2 ^ k : Nat))] [] (ret (vi k)) := by
    obtain ⟨h1, h2⟩ := tab64_at k hk
    refine ACall.walk k93 ?_
    rw [c93_g]
    exact tz_gen _ _ _ k (dB k) (by rw [beq_eq_false_iff_ne]; have := Nat.two_pow_pos k; omega) h1 (by rw [List.getElem?_map, h2]; rfl) (by omega) (dB_ok k hk)
  generalize ((2 ^ k : Nat) : Int) = x at *
  refine ACall.walk k91 ?_
  unfold c91
  simp only [go_sem, Nat.reduceEqDiff, Nat.reduceAdd, Nat.reduceSub, Nat.reduceMul, Nat.reduceLT, Nat.reduceLeDiff, Nat.reduceMod, Nat.reduceDiv, Int.reduceToNat, Int.reduceLT, Int.reduceLE, Bool.not_true, Bool.not_false, reduceIte, Int.reduceEq, Int.reduceBEq, Int.reduceBNe, Int.reduceGT, Int.reduceGE, Int.reduceNeg, Int.reduceAdd, Int.reduceSub, Nat.reduceBEq, decide_true, decide_false, undef, beq_self_eq_true, bne_self_eq_false, Bool.and_true, Bool.true_and, Bool.and_false, Bool.false_and, Bool.or_true, Bool.true_or, Bool.or_false, Bool.false_or]
  refine ACallL.quiet1 h93 rfl rfl rfl ?_
  simp only [go_sem, Nat.reduceEqDiff, Nat.reduceAdd, Nat.reduceSub, Nat.reduceMul, Nat.reduceLT, Nat.reduceLeDiff, Nat.reduceMod, Nat.reduceDiv, Int.reduceToNat, Int.reduceLT, Int.reduceLE, Bool.not_true, Bool.not_false, reduceIte, Int.reduceEq, Int.reduceBEq, Int.reduceBNe, Int.reduceGT, Int.reduceGE, Int.reduceNeg, Int.reduceAdd, Int.reduceSub, Nat.reduceBEq, decide_true, decide_false, undef, beq_self_eq_true, bne_self_eq_false, Bool.and_true, Bool.true_and, Bool.and_false, Bool.false_and, Bool.or_true, Bool.true_or, Bool.or_false, Bool.false_or]
  exact finL_ret [] ⟨rfl, rfl, rfl, rfl, _, rfl, res_mk rfl⟩

/-! ### The memo -/
/-- Does a hut float, in a place: 0: it is lost; else the row one below. -/
def liftK (step floor w v : Int) (k : Nat) : Bool := !(k == 0) && (decide (deepI step w (k - 1) > 0) && decide (deepI step w (k - 1) + v > floor))
def flV (s : Su) : List Int → Bool
  | [f, _, _, w, v, p] => liftK s.step f w v p.toNat.log2
  | _ => false
abbrev shN : Sh := (some [some .i64, some .i64, some .i64, some .i64, some .i64, some .u64], none)
def MapOK (s : Su) (ks : List (Nat × List Int)) (xs : List T) : Prop := ks.length = xs.length ∧ ∀ (i : Nat) e x, ks[i]? = some e → xs[i]? = some x → e.2.length = 6 ∧ x = vb (flV s e.2)
theorem MapOK.nil (s : Su) : MapOK s [] [] := ⟨rfl, fun i e x h => by simp at h⟩
theorem MapOK.find {s : Su} {ks : List (Nat × List Int)} {xs : List T} (M : MapOK s ks xs) {key : List Int} (hk : key.length = 6) {i : Nat} (hf : kfind shN ks key = some i) : xs[i]? = some (vb (flV s key)) := by
  unfold kfind at hf
  obtain ⟨hi, hp, _⟩ := List.findIdx?_eq_some_iff_getElem.1 hf
  have hix : i < xs.length := by rw [← M.1]; exact hi
  obtain ⟨e1, e2⟩ := M.2 i ks[i] xs[i] (List.getElem?_eq_getElem hi) (List.getElem?_eq_getElem hix)
  rw [kEq_int rfl hk e1] at hp
  have := of_decide_eq_true hp
  rw [List.getElem?_eq_getElem hix, e2, this]
theorem MapOK.put {s : Su} {ks : List (Nat × List Int)} {xs : List T} (M : MapOK s ks xs) {key : List Int} (hk : key.length = 6) {i : Nat} (hf : kfind shN ks key = some i) : MapOK s ks (xs.set i (vb (flV s key))) := by
  have hx := M.find hk hf
  have : xs.set i (vb (flV s key)) = xs := by
    apply List.ext_getElem?
    intro j
    by_cases hj : i = j
    · subst hj
      rw [List.getElem?_set_self (List.getElem?_eq_some_iff.1 hx).1, hx]
    · rw [List.getElem?_set_ne hj]
  rw [this]; exact M
theorem MapOK.new {s : Su} {ks : List (Nat × List Int)} {xs : List T} (M : MapOK s ks xs) {key : List Int} (hk : key.length = 6) {clk : Nat} : MapOK s (ks ++ [(clk, key)]) (xs ++ [vb (flV s key)]) := by
  refine ⟨by simp [M.1], fun i e x h1 h2 => ?_⟩
  by_cases hi : i < ks.length
  · rw [List.getElem?_append_left hi] at h1
    rw [List.getElem?_append_left (by rw [← M.1]; exact hi)] at h2
    exact M.2 i e x h1 h2
  · have hlt := (List.getElem?_eq_some_iff.1 h1).1
    simp at hlt
    obtain rfl : i = ks.length := by omega
    rw [List.getElem?_append_right (by omega)] at h1
    rw [M.1, List.getElem?_append_right (by omega)] at h2
    simp at h1 h2
    subst h1 h2
    exact ⟨hk, rfl⟩

/-- A surf that is looked at, its memo an object. -/
abbrev sea6 (s : Su) : List E := [.t (vi s.rows), .t (vi s.step), .t (.slice 2 (s.water.map tSp)), .t (.slice 2 (s.waves.map tSp)), .t (.slice 3 (s.huts.map tHu))]
abbrev seaE (s : Su) (m : Nat) : E := .vp [.t (vi s.rows), .t (vi s.step), .t (.slice 2 (s.water.map tSp)), .t (.slice 2 (s.waves.map tSp)), .t (.slice 3 (s.huts.map tHu)), .map m] 0
abbrev Memo (s : Su) (o : AO) : Prop := ∃ ks xs clk, MapOK s ks xs ∧ o = .map shN ks xs clk
abbrev tNow (h : Hu) (w v : Int) (p : Int) : T := .agg [vi h.floor, vi h.brake, vi h.row, vi w, vi v, vu p]
abbrev keyN (h : Hu) (w v : Int) (p : Int) : List Int := [h.floor, h.brake, h.row, w, v, p]
theorem toKeyN (a b c d e p : Int) : toKey (some [some .i64, some .i64, some .i64, some .i64, some .i64, some .u64], none) (.t (.agg [vi a, vi b, vi c, vi d, vi e, vu p])) = some [a, b, c, d, e, p] := by
  simp [toKey, cellKeys, cellKey]

theorem mul_bnd {a b : Int} (ha : 0 ≤ a ∧ a ≤ 4) (hb : -1 ≤ b ∧ b ≤ 10) : -4 ≤ a * b ∧ a * b ≤ 40 := by
  have : a = 0 ∨ a = 1 ∨ a = 2 ∨ a = 3 ∨ a = 4 := by omega
  rcases this with rfl | rfl | rfl | rfl | rfl <;> omega
theorem flV_pow (s : Su) (h : Hu) (w v : Int) (k : Nat) : flV s (keyN h w v (2 ^ k : Nat)) = liftK s.step h.floor w v k := by
  simp only [flV, Int.toNat_natCast, Nat.log2_two_pow]

set_option maxRecDepth 8000 in
set_option maxHeartbeats 4000000 in
theorem floats_ok (s : Su) (hs : 0 ≤ s.step ∧ s.step ≤ 4) (h : Hu) (w v : Int) (hw : 0 ≤ w ∧ w ≤ 100) (hv : 0 ≤ v ∧ v ≤ 100) (k : Nat) (hk : k < 8) {ks : List (Nat × List Int)} {xs : List T} {clk : Nat} (M : MapOK s ks xs) :
    ACall Tryd.prog 89 [seaE s 0, .t (tNow h w v (2 ^ k : Nat))] [.map shN ks xs clk] (fun o σ' => o = .ret (.t (vb (liftK s.step h.floor w v k))) ∧ ∃ a, Memo s a ∧ σ' = [a]) := by
  refine ACall.walk k89 ?_
  unfold c89
  have hp : 2 ^ k ≤ 128 := Nat.pow_le_pow_right (n := 2) (by decide) (show k ≤ 7 by omega)
  have h54 := lost_ok (2 ^ k) (by omega)
  have h91 := tz64_ok k hk
  have hb0 : (2 ^ k).testBit 0 = (k == 0) := by rw [Nat.testBit_two_pow]; cases k <;> simp
  rw [hb0] at h54
  have hfl := flV_pow s h w v k
  have hlk : liftK s.step h.floor w v k = (!(k == 0) && (decide (deepI s.step w (k - 1) > 0) && decide (deepI s.step w (k - 1) + v > h.floor))) := rfl
  have hkl : ∀ p : Int, (keyN h w v p).length = 6 := fun _ => rfl
  obtain ⟨hf, hb, hr⟩ := h
  simp only at hfl hlk hkl
  generalize hpg : ((2 ^ k : Nat) : Int) = p at *
  generalize liftK s.step hf w v k = r at *
  have hk1 := hkl p
  cases hk2 : kfind shN ks (keyN ⟨hf, hb, hr⟩ w v p) with
  | some i =>
    have hx := M.find hk1 hk2
    rw [hfl] at hx
    simp only [go_sem, Nat.reduceEqDiff, Nat.reduceAdd, Nat.reduceSub, Nat.reduceMul, Nat.reduceLT, Nat.reduceLeDiff, Nat.reduceMod, Nat.reduceDiv, Int.reduceToNat, Int.reduceLT, Int.reduceLE, Bool.not_true, Bool.not_false, reduceIte, Int.reduceEq, Int.reduceBEq, Int.reduceBNe, Int.reduceGT, Int.reduceGE, Int.reduceNeg, Int.reduceAdd, Int.reduceSub, Nat.reduceBEq, decide_true, decide_false, undef, beq_self_eq_true, bne_self_eq_false, Bool.and_true, Bool.true_and, Bool.and_false, Bool.false_and, Bool.or_true, Bool.true_or, Bool.or_false, Bool.false_or, undef, toKeyN, mapOf?, hk2, hx]
    exact finL_ret [0] ⟨rfl, rfl, rfl, rfl, _, rfl, rfl, _, ⟨_, _, _, M, rfl⟩, rfl⟩
  | none =>
    have M2 := M.new hk1 (clk := clk)
    rw [hfl] at M2
    simp only [go_sem, Nat.reduceEqDiff, Nat.reduceAdd, Nat.reduceSub, Nat.reduceMul, Nat.reduceLT, Nat.reduceLeDiff, Nat.reduceMod, Nat.reduceDiv, Int.reduceToNat, Int.reduceLT, Int.reduceLE, Bool.not_true, Bool.not_false, reduceIte, Int.reduceEq, Int.reduceBEq, Int.reduceBNe, Int.reduceGT, Int.reduceGE, Int.reduceNeg, Int.reduceAdd, Int.reduceSub, Nat.reduceBEq, decide_true, decide_false, undef, beq_self_eq_true, bne_self_eq_false, Bool.and_true, Bool.true_and, Bool.and_false, Bool.false_and, Bool.or_true, Bool.true_or, Bool.or_false, Bool.false_or, undef, toKeyN, mapOf?, hk2]
    refine ACallL.quiet1 h54 rfl rfl rfl ?_
    cases hz : (k == 0)
    · have hk0 : k ≠ 0 := by simpa using hz
      have hm := mul_bnd hs (b := (k : Int) - 1) (by omega)
      have h47 := depth_ok (vi s.rows) (.slice 2 (s.water.map tSp)) (.slice 2 (s.waves.map tSp)) (.slice 3 (s.huts.map tHu)) (.map shN ks xs clk) s.step w ((k : Int) - 1) (by omega) (by omega)
      have hw1 : IntKind.i64.wrap ((k : Int) - 1) = (k : Int) - 1 := wrap_id (by omega) (by omega)
      have hd : 0 ≤ deepI s.step w ((k : Int) - 1) ∧ deepI s.step w ((k : Int) - 1) ≤ 200 := by unfold deepI; omega
      rw [hz] at hlk
      generalize deepI s.step w ((k : Int) - 1) = d at *
      have hw2 : IntKind.i64.wrap (d + v) = d + v := wrap_id (by omega) (by omega)
      simp only [go_sem, Nat.reduceEqDiff, Nat.reduceAdd, Nat.reduceSub, Nat.reduceMul, Nat.reduceLT, Nat.reduceLeDiff, Nat.reduceMod, Nat.reduceDiv, Int.reduceToNat, Int.reduceLT, Int.reduceLE, Bool.not_true, Bool.not_false, reduceIte, Int.reduceEq, Int.reduceBEq, Int.reduceBNe, Int.reduceGT, Int.reduceGE, Int.reduceNeg, Int.reduceAdd, Int.reduceSub, Nat.reduceBEq, decide_true, decide_false, undef, beq_self_eq_true, bne_self_eq_false, Bool.and_true, Bool.true_and, Bool.and_false, Bool.false_and, Bool.or_true, Bool.true_or, Bool.or_false, Bool.false_or, undef, hz]
      refine ACallL.quiet1 h91 rfl rfl rfl ?_
      simp only [go_sem, Nat.reduceEqDiff, Nat.reduceAdd, Nat.reduceSub, Nat.reduceMul, Nat.reduceLT, Nat.reduceLeDiff, Nat.reduceMod, Nat.reduceDiv, Int.reduceToNat, Int.reduceLT, Int.reduceLE, Bool.not_true, Bool.not_false, reduceIte, Int.reduceEq, Int.reduceBEq, Int.reduceBNe, Int.reduceGT, Int.reduceGE, Int.reduceNeg, Int.reduceAdd, Int.reduceSub, Nat.reduceBEq, decide_true, decide_false, undef, beq_self_eq_true, bne_self_eq_false, Bool.and_true, Bool.true_and, Bool.and_false, Bool.false_and, Bool.or_true, Bool.true_or, Bool.or_false, Bool.false_or, undef, hw1]
      refine ACallL.quiet1 h47 rfl rfl rfl ?_
      cases h1 : decide (d > 0)
      · rw [h1] at hlk
        simp only [Bool.not_false, Bool.true_and, Bool.false_and] at hlk
        subst hlk
        simp only [go_sem, Nat.reduceEqDiff, Nat.reduceAdd, Nat.reduceSub, Nat.reduceMul, Nat.reduceLT, Nat.reduceLeDiff, Nat.reduceMod, Nat.reduceDiv, Int.reduceToNat, Int.reduceLT, Int.reduceLE, Bool.not_true, Bool.not_false, reduceIte, Int.reduceEq, Int.reduceBEq, Int.reduceBNe, Int.reduceGT, Int.reduceGE, Int.reduceNeg, Int.reduceAdd, Int.reduceSub, Nat.reduceBEq, decide_true, decide_false, undef, beq_self_eq_true, bne_self_eq_false, Bool.and_true, Bool.true_and, Bool.and_false, Bool.false_and, Bool.or_true, Bool.true_or, Bool.or_false, Bool.false_or, undef, h1, toKeyN, hk2]
        exact finL_ret [0] ⟨rfl, rfl, rfl, rfl, _, rfl, rfl, _, ⟨_, _, _, M2, rfl⟩, rfl⟩
      · rw [h1] at hlk
        simp only [Bool.not_false, Bool.true_and] at hlk
        subst hlk
        simp only [go_sem, Nat.reduceEqDiff, Nat.reduceAdd, Nat.reduceSub, Nat.reduceMul, Nat.reduceLT, Nat.reduceLeDiff, Nat.reduceMod, Nat.reduceDiv, Int.reduceToNat, Int.reduceLT, Int.reduceLE, Bool.not_true, Bool.not_false, reduceIte, Int.reduceEq, Int.reduceBEq, Int.reduceBNe, Int.reduceGT, Int.reduceGE, Int.reduceNeg, Int.reduceAdd, Int.reduceSub, Nat.reduceBEq, decide_true, decide_false, undef, beq_self_eq_true, bne_self_eq_false, Bool.and_true, Bool.true_and, Bool.and_false, Bool.false_and, Bool.or_true, Bool.true_or, Bool.or_false, Bool.false_or, undef, h1, hw2, toKeyN, hk2]
        exact finL_ret [0] ⟨rfl, rfl, rfl, rfl, _, rfl, rfl, _, ⟨_, _, _, M2, rfl⟩, rfl⟩
    · rw [hz] at hlk
      simp only [Bool.not_true, Bool.false_and] at hlk
      subst hlk
      simp only [go_sem, Nat.reduceEqDiff, Nat.reduceAdd, Nat.reduceSub, Nat.reduceMul, Nat.reduceLT, Nat.reduceLeDiff, Nat.reduceMod, Nat.reduceDiv, Int.reduceToNat, Int.reduceLT, Int.reduceLE, Bool.not_true, Bool.not_false, reduceIte, Int.reduceEq, Int.reduceBEq, Int.reduceBNe, Int.reduceGT, Int.reduceGE, Int.reduceNeg, Int.reduceAdd, Int.reduceSub, Nat.reduceBEq, decide_true, decide_false, undef, beq_self_eq_true, bne_self_eq_false, Bool.and_true, Bool.true_and, Bool.and_false, Bool.false_and, Bool.or_true, Bool.true_or, Bool.or_false, Bool.false_or, undef, hz, toKeyN, hk2]
      exact finL_ret [0] ⟨rfl, rfl, rfl, rfl, _, rfl, rfl, _, ⟨_, _, _, M2, rfl⟩, rfl⟩
end Go.Proofs.YtmahocdmkpigjaaDoor
