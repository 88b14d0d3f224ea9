/- Proved here: laws that the statements need (SuC2, SuC3, SuN, SuO). No conditions but those that each law states. -/
import Derived.Test.YtmahocdmkpigjaaDoorFL
import Derived.Test.YtmahocdmkpigjaaDoorProg
import Derived.Test.YtmahocdmkpigjaaDoorSD

set_option linter.unusedSimpArgs false
set_option linter.unusedVariables false

/- Compiled code of functions, printed by program; each is checked to be the program's. No conditions. -/
namespace Go.Proofs.YtmahocdmkpigjaaDoor
open Go Go.Ab
/-- dipworks/dipworksref04.Depth -/
def c16 : AC :=
 .seq (.reg [⟨(some 3), none, .box (.tmp 0)⟩,
 ⟨(some 6), none, .alloc [(.int .i64 0), (.int .i64 0)]⟩,
 ⟨(some 7), none, .mov (.lit (.int .i64 0))⟩])
 (.seq (.draw (.step ⟨(some 9), none, .load true 5 (.tmp 3)⟩ (
 .step ⟨(some 10), none, .load true 5 (.tmp 3)⟩ (
 .step ⟨(some 11), none, .mov (.tmp 1)⟩ (
 .ev ⟨(some 12), none, .call (.fn 49) [(.tmp 10), (.tmp 11)]⟩ [⟨(some 9), none, .load true 5 (.tmp 3)⟩] (
 .step ⟨(some 13), none, .mov (.tmp 12)⟩ (
 .step ⟨(some 14), (some (13, true)), .load true 5 (.tmp 3)⟩ (
 .step ⟨(some 15), (some (13, true)), .mov (.tmp 2)⟩ (
 .ev ⟨(some 16), (some (13, true)), .call (.fn 50) [(.tmp 14), (.tmp 15)]⟩ [⟨(some 10), none, .load true 5 (.tmp 3)⟩, ⟨(some 9), none, .load true 5 (.tmp 3)⟩] (
 .step ⟨(some 17), none, .pick (.tmp 13) (.tmp 16) (.lit (.bool false))⟩ (
 .ev ⟨(some 18), none, .call (.fn 48) [(.tmp 9), (.tmp 17)]⟩ [⟨(some 14), (some (13, true)), .load true 5 (.tmp 3)⟩, ⟨(some 10), none, .load true 5 (.tmp 3)⟩] (
 .step ⟨(some 8), none, .mov (.tmp 18)⟩ (
 .done))
 (.stop)))
 (.stop)))))
 (.stop))))))
 (.seq (.seq (.reg [⟨(some 19), none, .mov (.tmp 8)⟩,
 ⟨(some 20), none, .bin .neq (.tmp 19) (.lit (.int .i64 0))⟩])
 (.cond (.tmp 20) (.seq (.reg [⟨(some 21), none, .build [(.int .i64 0), (.int .i64 0)] []⟩,
 ⟨(some 22), none, .mov (.tmp 8)⟩,
 ⟨none, none, .store 2 (.tmp 6) (.tmp 21)⟩,
 ⟨(some 7), none, .mov (.tmp 22)⟩])
 (.ret))
 (.skip)))
 (.seq (.draw (.step ⟨(some 23), none, .load true 5 (.tmp 3)⟩ (
 .step ⟨(some 24), none, .faddr 2 (.tmp 3)⟩ (
 .step ⟨(some 25), none, .load false 1 (.tmp 24)⟩ (
 .step ⟨(some 26), none, .mov (.tmp 1)⟩ (
 .step ⟨(some 27), none, .iaddr 2 (.tmp 25) (.tmp 26)⟩ (
 .step ⟨(some 28), none, .faddr 0 (.tmp 27)⟩ (
 .step ⟨(some 29), none, .load false 1 (.tmp 28)⟩ (
 .step ⟨(some 30), none, .mov (.tmp 2)⟩ (
 .step ⟨(some 32), none, .load true 5 (.tmp 3)⟩ (
 .step ⟨(some 33), none, .faddr 2 (.tmp 3)⟩ (
 .step ⟨(some 34), none, .load false 1 (.tmp 33)⟩ (
 .step ⟨(some 35), none, .mov (.tmp 1)⟩ (
 .step ⟨(some 36), none, .iaddr 2 (.tmp 34) (.tmp 35)⟩ (
 .step ⟨(some 37), none, .faddr 1 (.tmp 36)⟩ (
 .step ⟨(some 38), none, .load false 1 (.tmp 37)⟩ (
 .step ⟨(some 39), none, .mov (.tmp 2)⟩ (
 .ev ⟨(some 31), none, .call (.fn 51) [(.tmp 23), (.tmp 29), (.tmp 30)]⟩ [⟨(some 38), none, .load false 1 (.tmp 37)⟩, ⟨(some 37), none, .faddr 1 (.tmp 36)⟩, ⟨(some 36), none, .iaddr 2 (.tmp 34) (.tmp 35)⟩, ⟨(some 34), none, .load false 1 (.tmp 33)⟩, ⟨(some 33), none, .faddr 2 (.tmp 3)⟩, ⟨(some 32), none, .load true 5 (.tmp 3)⟩, ⟨(some 28), none, .faddr 0 (.tmp 27)⟩, ⟨(some 27), none, .iaddr 2 (.tmp 25) (.tmp 26)⟩, ⟨(some 25), none, .load false 1 (.tmp 24)⟩, ⟨(some 24), none, .faddr 2 (.tmp 3)⟩] (
 .ev ⟨(some 40), none, .call (.fn 51) [(.tmp 32), (.tmp 38), (.tmp 39)]⟩ [⟨(some 37), none, .faddr 1 (.tmp 36)⟩, ⟨(some 36), none, .iaddr 2 (.tmp 34) (.tmp 35)⟩, ⟨(some 34), none, .load false 1 (.tmp 33)⟩, ⟨(some 33), none, .faddr 2 (.tmp 3)⟩, ⟨(some 29), none, .load false 1 (.tmp 28)⟩, ⟨(some 28), none, .faddr 0 (.tmp 27)⟩, ⟨(some 27), none, .iaddr 2 (.tmp 25) (.tmp 26)⟩, ⟨(some 25), none, .load false 1 (.tmp 24)⟩, ⟨(some 24), none, .faddr 2 (.tmp 3)⟩, ⟨(some 23), none, .load true 5 (.tmp 3)⟩] (
 .step ⟨(some 41), none, .build [(.int .i64 0), (.int .i64 0)] [(0, 1, (.tmp 31)), (1, 1, (.tmp 40))]⟩ (
 .ev ⟨none, none, .store 2 (.tmp 6) (.tmp 41)⟩ [] (
 .step ⟨(some 7), none, .mov (.lit (.int .i64 0))⟩ (
 .done))
 (.stop)))
 (.stop))
 (.stop)))))))))))))))))))
 (.ret))))
theorem k16 : FnC Tryd.prog 16 42 [6] [] [.cell 6 true 2, .tmp 7] c16 3 := ⟨Tryd.f16, _, Tryd.func16, rfl, by decide, rfl, by decide, by kernel_rfl, by kernel_rfl⟩
/-- dipworks/dipworksref04.Rows -/
def c18 : AC :=
 .seq (.reg [⟨(some 3), none, .box (.tmp 0)⟩,
 ⟨(some 6), none, .mov (.lit (.int .i64 0))⟩,
 ⟨(some 7), none, .mov (.lit (.bool false))⟩,
 ⟨(some 8), none, .mov (.lit (.int .i64 0))⟩])
 (.seq (.draw (.step ⟨(some 14), none, .load true 5 (.tmp 3)⟩ (
 .step ⟨(some 15), none, .load true 5 (.tmp 3)⟩ (
 .step ⟨(some 16), none, .mov (.tmp 1)⟩ (
 .ev ⟨(some 17), none, .call (.fn 56) [(.tmp 15), (.tmp 16)]⟩ [⟨(some 14), none, .load true 5 (.tmp 3)⟩] (
 .step ⟨(some 18), none, .mov (.tmp 17)⟩ (
 .step ⟨(some 19), (some (18, true)), .load true 5 (.tmp 3)⟩ (
 .step ⟨(some 20), (some (18, true)), .mov (.tmp 2)⟩ (
 .ev ⟨(some 21), (some (18, true)), .call (.fn 49) [(.tmp 19), (.tmp 20)]⟩ [⟨(some 15), none, .load true 5 (.tmp 3)⟩, ⟨(some 14), none, .load true 5 (.tmp 3)⟩] (
 .step ⟨(some 22), none, .pick (.tmp 18) (.tmp 21) (.lit (.bool false))⟩ (
 .ev ⟨(some 23), none, .call (.fn 48) [(.tmp 14), (.tmp 22)]⟩ [⟨(some 19), (some (18, true)), .load true 5 (.tmp 3)⟩, ⟨(some 15), none, .load true 5 (.tmp 3)⟩] (
 .step ⟨(some 9), none, .mov (.tmp 23)⟩ (
 .done))
 (.stop)))
 (.stop)))))
 (.stop))))))
 (.seq (.seq (.reg [⟨(some 24), none, .mov (.tmp 9)⟩,
 ⟨(some 25), none, .bin .neq (.tmp 24) (.lit (.int .i64 0))⟩])
 (.cond (.tmp 25) (.seq (.reg [⟨(some 26), none, .mov (.tmp 9)⟩,
 ⟨(some 6), none, .mov (.lit (.int .i64 0))⟩,
 ⟨(some 7), none, .mov (.lit (.bool false))⟩,
 ⟨(some 8), none, .mov (.tmp 26)⟩])
 (.ret))
 (.skip)))
 (.seq (.reg [⟨(some 10), none, .mov (.lit (.int .i64 0))⟩,
 ⟨(some 11), none, .mov (.lit (.bool false))⟩])
 (.seq (.reg [⟨(some 27), none, .load true 5 (.tmp 3)⟩,
 ⟨(some 28), none, .mov (.tmp 1)⟩,
 ⟨(some 29), none, .mov (.tmp 2)⟩,
 ⟨(some 30), none, .bin .add (.tmp 29) (.lit (.int .i64 1))⟩,
 ⟨(some 31), none, .call (.fn 57) [(.tmp 27), (.tmp 28), (.tmp 30)]⟩,
 ⟨(some 12), none, .mov (.tmp 31)⟩])
 (.seq (.seq (.reg [⟨(some 13), none, .mov (.lit (.int .i64 0))⟩])
 (.block 0 (.loop (.seq (.seq (.reg [⟨(some 32), none, .mov (.tmp 13)⟩,
 ⟨(some 33), none, .mov (.tmp 12)⟩,
 ⟨(some 34), none, .len (.tmp 33)⟩,
 ⟨(some 35), none, .bin .lss (.tmp 32) (.tmp 34)⟩])
 (.cond (.tmp 35) (.skip)
 (.exit 0)))
 (.seq (.block 1 (.seq (.reg [⟨(some 38), none, .mov (.tmp 12)⟩,
 ⟨(some 39), none, .mov (.tmp 13)⟩,
 ⟨(some 40), none, .iaddr 1 (.tmp 38) (.tmp 39)⟩,
 ⟨(some 41), none, .load false 1 (.tmp 40)⟩,
 ⟨(some 42), none, .bin .lss (.tmp 41) (.lit (.int .i64 0))⟩])
 (.cond (.tmp 42) (.reg [⟨(some 11), none, .mov (.lit (.bool true))⟩])
 (.reg [⟨(some 43), none, .mov (.tmp 10)⟩,
 ⟨(some 44), none, .mov (.tmp 12)⟩,
 ⟨(some 45), none, .mov (.tmp 13)⟩,
 ⟨(some 46), none, .iaddr 1 (.tmp 44) (.tmp 45)⟩,
 ⟨(some 47), none, .load false 1 (.tmp 46)⟩,
 ⟨(some 48), none, .call (.fn 58) [(.tmp 47)]⟩,
 ⟨(some 49), none, .bin .add (.tmp 43) (.tmp 48)⟩,
 ⟨(some 10), none, .mov (.tmp 49)⟩]))))
 (.reg [⟨(some 36), none, .mov (.tmp 13)⟩,
 ⟨(some 37), none, .bin .add (.tmp 36) (.lit (.int .i64 1))⟩,
 ⟨(some 13), none, .mov (.tmp 37)⟩]))))))
 (.seq (.reg [⟨(some 50), none, .mov (.tmp 10)⟩,
 ⟨(some 51), none, .mov (.tmp 11)⟩,
 ⟨(some 6), none, .mov (.tmp 50)⟩,
 ⟨(some 7), none, .mov (.tmp 51)⟩,
 ⟨(some 8), none, .mov (.lit (.int .i64 0))⟩])
 (.ret)))))))
theorem k18 : FnC Tryd.prog 18 52 [] [] [.tmp 6, .tmp 7, .tmp 8] c18 3 := ⟨Tryd.f18, _, Tryd.func18, rfl, by decide, rfl, by decide, by kernel_rfl, by kernel_rfl⟩
/-- dipworks/dipworksref04.Floats -/
def c20 : AC :=
 .seq (.reg [⟨(some 2), none, .box (.tmp 0)⟩,
 ⟨(some 4), none, .mov (.lit (.int .i64 0))⟩,
 ⟨(some 5), none, .mov (.lit (.int .i64 0))⟩,
 ⟨(some 6), none, .mov (.lit (.int .i64 0))⟩])
 (.seq (.draw (.step ⟨(some 13), none, .load true 5 (.tmp 2)⟩ (
 .step ⟨(some 14), none, .load true 5 (.tmp 2)⟩ (
 .step ⟨(some 15), none, .mov (.tmp 1)⟩ (
 .ev ⟨(some 16), none, .call (.fn 56) [(.tmp 14), (.tmp 15)]⟩ [⟨(some 13), none, .load true 5 (.tmp 2)⟩] (
 .ev ⟨(some 17), none, .call (.fn 48) [(.tmp 13), (.tmp 16)]⟩ [⟨(some 14), none, .load true 5 (.tmp 2)⟩] (
 .step ⟨(some 7), none, .mov (.tmp 17)⟩ (
 .done))
 (.stop))
 (.stop))))))
 (.seq (.seq (.reg [⟨(some 18), none, .mov (.tmp 7)⟩,
 ⟨(some 19), none, .bin .neq (.tmp 18) (.lit (.int .i64 0))⟩])
 (.cond (.tmp 19) (.seq (.reg [⟨(some 20), none, .mov (.tmp 7)⟩,
 ⟨(some 4), none, .mov (.lit (.int .i64 0))⟩,
 ⟨(some 5), none, .mov (.lit (.int .i64 0))⟩,
 ⟨(some 6), none, .mov (.tmp 20)⟩])
 (.ret))
 (.skip)))
 (.seq (.reg [⟨(some 8), none, .mov (.lit (.int .i64 0))⟩,
 ⟨(some 9), none, .mov (.lit (.int .i64 0))⟩])
 (.seq (.seq (.reg [⟨(some 10), none, .mov (.lit (.int .i64 0))⟩])
 (.block 0 (.loop (.seq (.seq (.reg [⟨(some 21), none, .mov (.tmp 10)⟩,
 ⟨(some 22), none, .faddr 2 (.tmp 2)⟩,
 ⟨(some 23), none, .load false 1 (.tmp 22)⟩,
 ⟨(some 24), none, .len (.tmp 23)⟩,
 ⟨(some 25), none, .bin .lss (.tmp 21) (.tmp 24)⟩])
 (.cond (.tmp 25) (.skip)
 (.exit 0)))
 (.seq (.block 1 (.seq (.reg [⟨(some 29), none, .load true 5 (.tmp 2)⟩,
 ⟨(some 30), none, .mov (.tmp 1)⟩,
 ⟨(some 31), none, .mov (.tmp 10)⟩,
 ⟨(some 32), none, .call (.fn 60) [(.tmp 29), (.tmp 30), (.tmp 31)]⟩,
 ⟨(some 28), none, .mov (.tmp 32)⟩,
 ⟨(some 33), none, .ext (.tmp 28) 0⟩,
 ⟨(some 34), none, .ext (.tmp 28) 1⟩,
 ⟨(some 11), none, .mov (.tmp 33)⟩,
 ⟨(some 12), none, .mov (.tmp 34)⟩])
 (.seq (.seq (.reg [⟨(some 35), none, .mov (.tmp 11)⟩])
 (.cond (.tmp 35) (.reg [⟨(some 36), none, .mov (.tmp 9)⟩,
 ⟨(some 37), none, .mov (.tmp 10)⟩,
 ⟨(some 38), none, .call (.fn 58) [(.tmp 37)]⟩,
 ⟨(some 39), none, .bin .add (.tmp 36) (.tmp 38)⟩,
 ⟨(some 9), none, .mov (.tmp 39)⟩])
 (.skip)))
 (.seq (.reg [⟨(some 40), none, .mov (.tmp 12)⟩,
 ⟨(some 41), none, .un .not (.tmp 40)⟩])
 (.cond (.tmp 41) (.reg [⟨(some 42), none, .mov (.tmp 8)⟩,
 ⟨(some 43), none, .mov (.tmp 10)⟩,
 ⟨(some 44), none, .call (.fn 58) [(.tmp 43)]⟩,
 ⟨(some 45), none, .bin .add (.tmp 42) (.tmp 44)⟩,
 ⟨(some 8), none, .mov (.tmp 45)⟩])
 (.skip))))))
 (.reg [⟨(some 26), none, .mov (.tmp 10)⟩,
 ⟨(some 27), none, .bin .add (.tmp 26) (.lit (.int .i64 1))⟩,
 ⟨(some 10), none, .mov (.tmp 27)⟩]))))))
 (.seq (.reg [⟨(some 46), none, .mov (.tmp 8)⟩,
 ⟨(some 47), none, .mov (.tmp 9)⟩,
 ⟨(some 4), none, .mov (.tmp 46)⟩,
 ⟨(some 5), none, .mov (.tmp 47)⟩,
 ⟨(some 6), none, .mov (.lit (.int .i64 0))⟩])
 (.ret))))))
theorem k20 : FnC Tryd.prog 20 48 [] [] [.tmp 4, .tmp 5, .tmp 6] c20 2 := ⟨Tryd.f20, _, Tryd.func20, rfl, by decide, rfl, by decide, by kernel_rfl, by kernel_rfl⟩
/-- dipworks/dipworksref04.Lost -/
def c22 : AC :=
 .seq (.reg [⟨(some 2), none, .box (.tmp 0)⟩,
 ⟨(some 4), none, .mov (.lit (.int .i64 0))⟩,
 ⟨(some 5), none, .mov (.lit (.int .i64 0))⟩])
 (.seq (.draw (.step ⟨(some 9), none, .load true 5 (.tmp 2)⟩ (
 .step ⟨(some 10), none, .load true 5 (.tmp 2)⟩ (
 .step ⟨(some 11), none, .mov (.tmp 1)⟩ (
 .ev ⟨(some 12), none, .call (.fn 56) [(.tmp 10), (.tmp 11)]⟩ [⟨(some 9), none, .load true 5 (.tmp 2)⟩] (
 .ev ⟨(some 13), none, .call (.fn 48) [(.tmp 9), (.tmp 12)]⟩ [⟨(some 10), none, .load true 5 (.tmp 2)⟩] (
 .step ⟨(some 6), none, .mov (.tmp 13)⟩ (
 .done))
 (.stop))
 (.stop))))))
 (.seq (.seq (.reg [⟨(some 14), none, .mov (.tmp 6)⟩,
 ⟨(some 15), none, .bin .neq (.tmp 14) (.lit (.int .i64 0))⟩])
 (.cond (.tmp 15) (.seq (.reg [⟨(some 16), none, .mov (.tmp 6)⟩,
 ⟨(some 4), none, .mov (.lit (.int .i64 0))⟩,
 ⟨(some 5), none, .mov (.tmp 16)⟩])
 (.ret))
 (.skip)))
 (.seq (.reg [⟨(some 18), none, .load true 5 (.tmp 2)⟩,
 ⟨(some 19), none, .mov (.tmp 1)⟩,
 ⟨(some 20), none, .call (.fn 61) [(.tmp 18), (.tmp 19)]⟩,
 ⟨(some 17), none, .mov (.tmp 20)⟩,
 ⟨(some 21), none, .ext (.tmp 17) 0⟩,
 ⟨(some 22), none, .ext (.tmp 17) 1⟩,
 ⟨(some 7), none, .mov (.tmp 21)⟩,
 ⟨(some 8), none, .mov (.tmp 22)⟩])
 (.seq (.seq (.reg [⟨(some 23), none, .mov (.tmp 8)⟩,
 ⟨(some 24), none, .un .not (.tmp 23)⟩])
 (.cond (.tmp 24) (.seq (.reg [⟨(some 4), none, .mov (.lit (.int .i64 2))⟩,
 ⟨(some 5), none, .mov (.lit (.int .i64 0))⟩])
 (.ret))
 (.skip)))
 (.seq (.seq (.reg [⟨(some 25), none, .mov (.tmp 7)⟩,
 ⟨(some 26), none, .un .not (.tmp 25)⟩])
 (.cond (.tmp 26) (.seq (.reg [⟨(some 4), none, .mov (.lit (.int .i64 0))⟩,
 ⟨(some 5), none, .mov (.lit (.int .i64 0))⟩])
 (.ret))
 (.skip)))
 (.seq (.reg [⟨(some 4), none, .mov (.lit (.int .i64 1))⟩,
 ⟨(some 5), none, .mov (.lit (.int .i64 0))⟩])
 (.ret)))))))
theorem k22 : FnC Tryd.prog 22 27 [] [] [.tmp 4, .tmp 5] c22 2 := ⟨Tryd.f22, _, Tryd.func22, rfl, by decide, rfl, by decide, by kernel_rfl, by kernel_rfl⟩
/-- dipworks/dipworksref04.Before -/
def c24 : AC :=
 .seq (.reg [⟨(some 2), none, .box (.tmp 0)⟩,
 ⟨(some 4), none, .mov (.lit (.int .i64 0))⟩,
 ⟨(some 5), none, .mov (.lit (.int .i64 0))⟩])
 (.seq (.draw (.step ⟨(some 8), none, .load true 5 (.tmp 2)⟩ (
 .step ⟨(some 9), none, .load true 5 (.tmp 2)⟩ (
 .step ⟨(some 10), none, .mov (.tmp 1)⟩ (
 .ev ⟨(some 11), none, .call (.fn 56) [(.tmp 9), (.tmp 10)]⟩ [⟨(some 8), none, .load true 5 (.tmp 2)⟩] (
 .ev ⟨(some 12), none, .call (.fn 48) [(.tmp 8), (.tmp 11)]⟩ [⟨(some 9), none, .load true 5 (.tmp 2)⟩] (
 .step ⟨(some 6), none, .mov (.tmp 12)⟩ (
 .done))
 (.stop))
 (.stop))))))
 (.seq (.seq (.reg [⟨(some 13), none, .mov (.tmp 6)⟩,
 ⟨(some 14), none, .bin .neq (.tmp 13) (.lit (.int .i64 0))⟩])
 (.cond (.tmp 14) (.seq (.reg [⟨(some 15), none, .mov (.tmp 6)⟩,
 ⟨(some 4), none, .mov (.lit (.int .i64 0))⟩,
 ⟨(some 5), none, .mov (.tmp 15)⟩])
 (.ret))
 (.skip)))
 (.seq (.reg [⟨(some 16), none, .load true 5 (.tmp 2)⟩,
 ⟨(some 17), none, .mov (.tmp 1)⟩,
 ⟨(some 18), none, .call (.fn 64) [(.tmp 16), (.tmp 17)]⟩,
 ⟨(some 7), none, .mov (.tmp 18)⟩])
 (.seq (.seq (.reg [⟨(some 19), none, .mov (.tmp 7)⟩,
 ⟨(some 20), none, .bin .lss (.tmp 19) (.lit (.int .i64 0))⟩])
 (.cond (.tmp 20) (.seq (.reg [⟨(some 4), none, .mov (.lit (.int .i64 0))⟩,
 ⟨(some 5), none, .mov (.lit (.int .i64 4))⟩])
 (.ret))
 (.skip)))
 (.seq (.reg [⟨(some 21), none, .mov (.tmp 7)⟩,
 ⟨(some 4), none, .mov (.tmp 21)⟩,
 ⟨(some 5), none, .mov (.lit (.int .i64 0))⟩])
 (.ret))))))
theorem k24 : FnC Tryd.prog 24 22 [] [] [.tmp 4, .tmp 5] c24 2 := ⟨Tryd.f24, _, Tryd.func24, rfl, by decide, rfl, by decide, by kernel_rfl, by kernel_rfl⟩
/-- dipworks/dipworksref04.Brake -/
def c26 : AC :=
 .seq (.reg [⟨(some 2), none, .box (.tmp 0)⟩,
 ⟨(some 4), none, .mov (.lit (.int .i64 0))⟩,
 ⟨(some 5), none, .mov (.lit (.int .i64 0))⟩])
 (.seq (.draw (.step ⟨(some 10), none, .load true 5 (.tmp 2)⟩ (
 .step ⟨(some 11), none, .load true 5 (.tmp 2)⟩ (
 .step ⟨(some 12), none, .mov (.tmp 1)⟩ (
 .ev ⟨(some 13), none, .call (.fn 56) [(.tmp 11), (.tmp 12)]⟩ [⟨(some 10), none, .load true 5 (.tmp 2)⟩] (
 .ev ⟨(some 14), none, .call (.fn 48) [(.tmp 10), (.tmp 13)]⟩ [⟨(some 11), none, .load true 5 (.tmp 2)⟩] (
 .step ⟨(some 6), none, .mov (.tmp 14)⟩ (
 .done))
 (.stop))
 (.stop))))))
 (.seq (.seq (.reg [⟨(some 15), none, .mov (.tmp 6)⟩,
 ⟨(some 16), none, .bin .neq (.tmp 15) (.lit (.int .i64 0))⟩])
 (.cond (.tmp 16) (.seq (.reg [⟨(some 17), none, .mov (.tmp 6)⟩,
 ⟨(some 4), none, .mov (.lit (.int .i64 0))⟩,
 ⟨(some 5), none, .mov (.tmp 17)⟩])
 (.ret))
 (.skip)))
 (.seq (.seq (.reg [⟨(some 7), none, .mov (.lit (.int .i64 0))⟩])
 (.block 0 (.loop (.seq (.seq (.reg [⟨(some 18), none, .mov (.tmp 7)⟩,
 ⟨(some 19), none, .bin .lss (.tmp 18) (.lit (.int .i64 10))⟩])
 (.cond (.tmp 19) (.skip)
 (.exit 0)))
 (.seq (.block 1 (.seq (.draw (.step ⟨(some 23), none, .load true 5 (.tmp 2)⟩ (
 .step ⟨(some 24), none, .mov (.tmp 1)⟩ (
 .step ⟨(some 25), none, .faddr 4 (.tmp 2)⟩ (
 .step ⟨(some 26), none, .load false 1 (.tmp 25)⟩ (
 .step ⟨(some 27), none, .mov (.tmp 1)⟩ (
 .step ⟨(some 28), none, .iaddr 3 (.tmp 26) (.tmp 27)⟩ (
 .step ⟨(some 29), none, .faddr 0 (.tmp 28)⟩ (
 .step ⟨(some 30), none, .load false 1 (.tmp 29)⟩ (
 .step ⟨(some 31), none, .mov (.tmp 7)⟩ (
 .step ⟨(some 33), none, .mov (.tmp 1)⟩ (
 .ev ⟨(some 32), none, .call (.fn 68) [(.tmp 23), (.tmp 24), (.tmp 30), (.tmp 31)]⟩ [⟨(some 29), none, .faddr 0 (.tmp 28)⟩, ⟨(some 28), none, .iaddr 3 (.tmp 26) (.tmp 27)⟩, ⟨(some 26), none, .load false 1 (.tmp 25)⟩, ⟨(some 25), none, .faddr 4 (.tmp 2)⟩] (
 .ev ⟨(some 34), none, .call (.fn 61) [(.tmp 32), (.tmp 33)]⟩ [⟨(some 30), none, .load false 1 (.tmp 29)⟩, ⟨(some 29), none, .faddr 0 (.tmp 28)⟩, ⟨(some 28), none, .iaddr 3 (.tmp 26) (.tmp 27)⟩, ⟨(some 26), none, .load false 1 (.tmp 25)⟩, ⟨(some 25), none, .faddr 4 (.tmp 2)⟩, ⟨(some 23), none, .load true 5 (.tmp 2)⟩] (
 .step ⟨(some 22), none, .mov (.tmp 34)⟩ (
 .step ⟨(some 35), none, .ext (.tmp 22) 0⟩ (
 .step ⟨(some 36), none, .ext (.tmp 22) 1⟩ (
 .step ⟨(some 8), none, .mov (.tmp 35)⟩ (
 .step ⟨(some 9), none, .mov (.tmp 36)⟩ (
 .done))))))
 (.stop))
 (.stop)))))))))))))
 (.seq (.reg [⟨(some 37), none, .mov (.tmp 8)⟩,
 ⟨(some 38), none, .un .not (.tmp 37)⟩])
 (.cond (.tmp 38) (.seq (.reg [⟨(some 39), none, .mov (.tmp 7)⟩,
 ⟨(some 4), none, .mov (.tmp 39)⟩,
 ⟨(some 5), none, .mov (.lit (.int .i64 0))⟩])
 (.ret))
 (.skip)))))
 (.reg [⟨(some 20), none, .mov (.tmp 7)⟩,
 ⟨(some 21), none, .bin .add (.tmp 20) (.lit (.int .i64 1))⟩,
 ⟨(some 7), none, .mov (.tmp 21)⟩]))))))
 (.seq (.reg [⟨(some 4), none, .mov (.lit (.int .i64 10))⟩,
 ⟨(some 5), none, .mov (.lit (.int .i64 0))⟩])
 (.ret)))))
theorem k26 : FnC Tryd.prog 26 40 [] [] [.tmp 4, .tmp 5] c26 2 := ⟨Tryd.f26, _, Tryd.func26, rfl, by decide, rfl, by decide, by kernel_rfl, by kernel_rfl⟩
/-- dipworks/dipworksref04.Floor -/
def c28 : AC :=
 .seq (.reg [⟨(some 2), none, .box (.tmp 0)⟩,
 ⟨(some 4), none, .mov (.lit (.int .i64 0))⟩,
 ⟨(some 5), none, .mov (.lit (.int .i64 0))⟩])
 (.seq (.draw (.step ⟨(some 8), none, .load true 5 (.tmp 2)⟩ (
 .step ⟨(some 9), none, .load true 5 (.tmp 2)⟩ (
 .step ⟨(some 10), none, .mov (.tmp 1)⟩ (
 .ev ⟨(some 11), none, .call (.fn 56) [(.tmp 9), (.tmp 10)]⟩ [⟨(some 8), none, .load true 5 (.tmp 2)⟩] (
 .ev ⟨(some 12), none, .call (.fn 48) [(.tmp 8), (.tmp 11)]⟩ [⟨(some 9), none, .load true 5 (.tmp 2)⟩] (
 .step ⟨(some 6), none, .mov (.tmp 12)⟩ (
 .done))
 (.stop))
 (.stop))))))
 (.seq (.seq (.reg [⟨(some 13), none, .mov (.tmp 6)⟩,
 ⟨(some 14), none, .bin .neq (.tmp 13) (.lit (.int .i64 0))⟩])
 (.cond (.tmp 14) (.seq (.reg [⟨(some 15), none, .mov (.tmp 6)⟩,
 ⟨(some 4), none, .mov (.lit (.int .i64 0))⟩,
 ⟨(some 5), none, .mov (.tmp 15)⟩])
 (.ret))
 (.skip)))
 (.seq (.seq (.reg [⟨(some 7), none, .mov (.lit (.int .i64 0))⟩])
 (.block 0 (.loop (.seq (.seq (.reg [⟨(some 16), none, .mov (.tmp 7)⟩,
 ⟨(some 17), none, .bin .lss (.tmp 16) (.lit (.int .i64 40))⟩])
 (.cond (.tmp 17) (.skip)
 (.exit 0)))
 (.seq (.block 1 (.seq (.draw (.step ⟨(some 20), none, .load true 5 (.tmp 2)⟩ (
 .step ⟨(some 21), none, .mov (.tmp 1)⟩ (
 .step ⟨(some 22), none, .mov (.tmp 7)⟩ (
 .step ⟨(some 23), none, .faddr 4 (.tmp 2)⟩ (
 .step ⟨(some 24), none, .load false 1 (.tmp 23)⟩ (
 .step ⟨(some 25), none, .mov (.tmp 1)⟩ (
 .step ⟨(some 26), none, .iaddr 3 (.tmp 24) (.tmp 25)⟩ (
 .step ⟨(some 27), none, .faddr 1 (.tmp 26)⟩ (
 .step ⟨(some 28), none, .load false 1 (.tmp 27)⟩ (
 .step ⟨(some 30), none, .mov (.tmp 1)⟩ (
 .ev ⟨(some 29), none, .call (.fn 68) [(.tmp 20), (.tmp 21), (.tmp 22), (.tmp 28)]⟩ [⟨(some 27), none, .faddr 1 (.tmp 26)⟩, ⟨(some 26), none, .iaddr 3 (.tmp 24) (.tmp 25)⟩, ⟨(some 24), none, .load false 1 (.tmp 23)⟩, ⟨(some 23), none, .faddr 4 (.tmp 2)⟩] (
 .ev ⟨(some 31), none, .call (.fn 64) [(.tmp 29), (.tmp 30)]⟩ [⟨(some 28), none, .load false 1 (.tmp 27)⟩, ⟨(some 27), none, .faddr 1 (.tmp 26)⟩, ⟨(some 26), none, .iaddr 3 (.tmp 24) (.tmp 25)⟩, ⟨(some 24), none, .load false 1 (.tmp 23)⟩, ⟨(some 23), none, .faddr 4 (.tmp 2)⟩, ⟨(some 20), none, .load true 5 (.tmp 2)⟩] (
 .step ⟨(some 32), none, .bin .lss (.tmp 31) (.lit (.int .i64 0))⟩ (
 .done))
 (.stop))
 (.stop)))))))))))))
 (.cond (.tmp 32) (.seq (.reg [⟨(some 33), none, .mov (.tmp 7)⟩,
 ⟨(some 4), none, .mov (.tmp 33)⟩,
 ⟨(some 5), none, .mov (.lit (.int .i64 0))⟩])
 (.ret))
 (.skip))))
 (.reg [⟨(some 18), none, .mov (.tmp 7)⟩,
 ⟨(some 19), none, .bin .add (.tmp 18) (.lit (.int .i64 1))⟩,
 ⟨(some 7), none, .mov (.tmp 19)⟩]))))))
 (.seq (.reg [⟨(some 4), none, .mov (.lit (.int .i64 40))⟩,
 ⟨(some 5), none, .mov (.lit (.int .i64 0))⟩])
 (.ret)))))
theorem k28 : FnC Tryd.prog 28 34 [] [] [.tmp 4, .tmp 5] c28 2 := ⟨Tryd.f28, _, Tryd.func28, rfl, by decide, rfl, by decide, by kernel_rfl, by kernel_rfl⟩
/-- dipworks/dipworksref04.Surf -/
def c29 : AC :=
 .seq (.reg [⟨(some 1), none, .box (.tmp 0)⟩,
 ⟨(some 2), none, .mov (.lit (.bool false))⟩])
 (.seq (.seq (.reg [⟨(some 6), none, .faddr 0 (.tmp 1)⟩,
 ⟨(some 7), none, .load false 1 (.tmp 6)⟩,
 ⟨(some 8), none, .call (.fn 71) [(.tmp 7), (.lit (.int .i64 1)), (.lit (.int .i64 6))]⟩,
 ⟨(some 9), none, .un .not (.tmp 8)⟩,
 ⟨(some 10), none, .mov (.tmp 9)⟩,
 ⟨(some 11), (some (10, false)), .faddr 1 (.tmp 1)⟩,
 ⟨(some 12), (some (10, false)), .load false 1 (.tmp 11)⟩,
 ⟨(some 13), (some (10, false)), .call (.fn 71) [(.tmp 12), (.lit (.int .i64 0)), (.lit (.int .i64 4))]⟩,
 ⟨(some 14), (some (10, false)), .un .not (.tmp 13)⟩,
 ⟨(some 15), none, .pick (.tmp 10) (.lit (.bool true)) (.tmp 14)⟩,
 ⟨(some 16), none, .mov (.tmp 15)⟩,
 ⟨(some 17), (some (16, false)), .faddr 2 (.tmp 1)⟩,
 ⟨(some 18), (some (16, false)), .load false 1 (.tmp 17)⟩,
 ⟨(some 19), (some (16, false)), .len (.tmp 18)⟩,
 ⟨(some 20), (some (16, false)), .bin .gtr (.tmp 19) (.lit (.int .i64 8))⟩,
 ⟨(some 21), none, .pick (.tmp 16) (.lit (.bool true)) (.tmp 20)⟩,
 ⟨(some 22), none, .mov (.tmp 21)⟩,
 ⟨(some 23), (some (22, false)), .faddr 3 (.tmp 1)⟩,
 ⟨(some 24), (some (22, false)), .load false 1 (.tmp 23)⟩,
 ⟨(some 25), (some (22, false)), .len (.tmp 24)⟩,
 ⟨(some 26), (some (22, false)), .faddr 2 (.tmp 1)⟩,
 ⟨(some 27), (some (22, false)), .load false 1 (.tmp 26)⟩,
 ⟨(some 28), (some (22, false)), .len (.tmp 27)⟩,
 ⟨(some 29), (some (22, false)), .bin .neq (.tmp 25) (.tmp 28)⟩,
 ⟨(some 30), none, .pick (.tmp 22) (.lit (.bool true)) (.tmp 29)⟩,
 ⟨(some 31), none, .mov (.tmp 30)⟩,
 ⟨(some 32), (some (31, false)), .faddr 4 (.tmp 1)⟩,
 ⟨(some 33), (some (31, false)), .load false 1 (.tmp 32)⟩,
 ⟨(some 34), (some (31, false)), .len (.tmp 33)⟩,
 ⟨(some 35), (some (31, false)), .bin .gtr (.tmp 34) (.lit (.int .i64 5))⟩,
 ⟨(some 36), none, .pick (.tmp 31) (.lit (.bool true)) (.tmp 35)⟩])
 (.cond (.tmp 36) (.seq (.reg [⟨(some 2), none, .mov (.lit (.bool false))⟩])
 (.ret))
 (.skip)))
 (.seq (.seq (.reg [⟨(some 3), none, .mov (.lit (.int .i64 0))⟩])
 (.block 0 (.loop (.seq (.seq (.reg [⟨(some 37), none, .mov (.tmp 3)⟩,
 ⟨(some 38), none, .faddr 2 (.tmp 1)⟩,
 ⟨(some 39), none, .load false 1 (.tmp 38)⟩,
 ⟨(some 40), none, .len (.tmp 39)⟩,
 ⟨(some 41), none, .bin .lss (.tmp 37) (.tmp 40)⟩])
 (.cond (.tmp 41) (.skip)
 (.exit 0)))
 (.seq (.block 1 (.seq (.reg [⟨(some 44), none, .faddr 2 (.tmp 1)⟩,
 ⟨(some 45), none, .load false 1 (.tmp 44)⟩,
 ⟨(some 46), none, .mov (.tmp 3)⟩,
 ⟨(some 47), none, .iaddr 2 (.tmp 45) (.tmp 46)⟩,
 ⟨(some 48), none, .load true 2 (.tmp 47)⟩,
 ⟨(some 49), none, .call (.fn 72) [(.tmp 48), (.lit (.int .i64 30))]⟩,
 ⟨(some 50), none, .un .not (.tmp 49)⟩,
 ⟨(some 51), none, .mov (.tmp 50)⟩,
 ⟨(some 52), (some (51, false)), .faddr 3 (.tmp 1)⟩,
 ⟨(some 53), (some (51, false)), .load false 1 (.tmp 52)⟩,
 ⟨(some 54), (some (51, false)), .mov (.tmp 3)⟩,
 ⟨(some 55), (some (51, false)), .iaddr 2 (.tmp 53) (.tmp 54)⟩,
 ⟨(some 56), (some (51, false)), .load true 2 (.tmp 55)⟩,
 ⟨(some 57), (some (51, false)), .call (.fn 72) [(.tmp 56), (.lit (.int .i64 10))]⟩,
 ⟨(some 58), (some (51, false)), .un .not (.tmp 57)⟩,
 ⟨(some 59), none, .pick (.tmp 51) (.lit (.bool true)) (.tmp 58)⟩])
 (.cond (.tmp 59) (.seq (.reg [⟨(some 2), none, .mov (.lit (.bool false))⟩])
 (.ret))
 (.skip))))
 (.reg [⟨(some 42), none, .mov (.tmp 3)⟩,
 ⟨(some 43), none, .bin .add (.tmp 42) (.lit (.int .i64 1))⟩,
 ⟨(some 3), none, .mov (.tmp 43)⟩]))))))
 (.seq (.seq (.reg [⟨(some 4), none, .mov (.lit (.int .i64 0))⟩])
 (.block 2 (.loop (.seq (.seq (.reg [⟨(some 60), none, .mov (.tmp 4)⟩,
 ⟨(some 61), none, .faddr 4 (.tmp 1)⟩,
 ⟨(some 62), none, .load false 1 (.tmp 61)⟩,
 ⟨(some 63), none, .len (.tmp 62)⟩,
 ⟨(some 64), none, .bin .lss (.tmp 60) (.tmp 63)⟩])
 (.cond (.tmp 64) (.skip)
 (.exit 2)))
 (.seq (.block 3 (.seq (.reg [⟨(some 67), none, .faddr 4 (.tmp 1)⟩,
 ⟨(some 68), none, .load false 1 (.tmp 67)⟩,
 ⟨(some 69), none, .mov (.tmp 4)⟩,
 ⟨(some 70), none, .iaddr 3 (.tmp 68) (.tmp 69)⟩,
 ⟨(some 71), none, .load true 3 (.tmp 70)⟩,
 ⟨(some 5), none, .alloc [(.int .i64 0), (.int .i64 0), (.int .i64 0)]⟩,
 ⟨none, none, .store 3 (.tmp 5) (.tmp 71)⟩])
 (.seq (.reg [⟨(some 72), none, .faddr 0 (.tmp 5)⟩,
 ⟨(some 73), none, .load false 1 (.tmp 72)⟩,
 ⟨(some 74), none, .call (.fn 71) [(.tmp 73), (.lit (.int .i64 0)), (.lit (.int .i64 40))]⟩,
 ⟨(some 75), none, .un .not (.tmp 74)⟩,
 ⟨(some 76), none, .mov (.tmp 75)⟩,
 ⟨(some 77), (some (76, false)), .faddr 1 (.tmp 5)⟩,
 ⟨(some 78), (some (76, false)), .load false 1 (.tmp 77)⟩,
 ⟨(some 79), (some (76, false)), .call (.fn 71) [(.tmp 78), (.lit (.int .i64 0)), (.lit (.int .i64 10))]⟩,
 ⟨(some 80), (some (76, false)), .un .not (.tmp 79)⟩,
 ⟨(some 81), none, .pick (.tmp 76) (.lit (.bool true)) (.tmp 80)⟩,
 ⟨(some 82), none, .mov (.tmp 81)⟩,
 ⟨(some 83), (some (82, false)), .faddr 2 (.tmp 5)⟩,
 ⟨(some 84), (some (82, false)), .load false 1 (.tmp 83)⟩,
 ⟨(some 85), (some (82, false)), .faddr 0 (.tmp 1)⟩,
 ⟨(some 86), (some (82, false)), .load false 1 (.tmp 85)⟩,
 ⟨(some 87), (some (82, false)), .bin .sub (.tmp 86) (.lit (.int .i64 1))⟩,
 ⟨(some 88), (some (82, false)), .call (.fn 71) [(.tmp 84), (.lit (.int .i64 0)), (.tmp 87)]⟩,
 ⟨(some 89), (some (82, false)), .un .not (.tmp 88)⟩,
 ⟨(some 90), none, .pick (.tmp 82) (.lit (.bool true)) (.tmp 89)⟩])
 (.cond (.tmp 90) (.seq (.reg [⟨(some 2), none, .mov (.lit (.bool false))⟩])
 (.ret))
 (.skip)))))
 (.reg [⟨(some 65), none, .mov (.tmp 4)⟩,
 ⟨(some 66), none, .bin .add (.tmp 65) (.lit (.int .i64 1))⟩,
 ⟨(some 4), none, .mov (.tmp 66)⟩]))))))
 (.seq (.reg [⟨(some 2), none, .mov (.lit (.bool true))⟩])
 (.ret)))))
theorem k29 : FnC Tryd.prog 29 91 [] [] [.tmp 2] c29 1 := ⟨Tryd.f29, _, Tryd.func29, rfl, by decide, rfl, by decide, by kernel_rfl, by kernel_rfl⟩
/-- dipworks/dipworksref04.Ints -/
def c32 : AC :=
 .seq (.reg [⟨(some 4), none, .mov (.lit (.bool false))⟩])
 (.seq (.seq (.reg [⟨(some 6), none, .mov (.tmp 0)⟩,
 ⟨(some 7), none, .len (.tmp 6)⟩,
 ⟨(some 8), none, .mov (.tmp 1)⟩,
 ⟨(some 9), none, .len (.tmp 8)⟩,
 ⟨(some 10), none, .bin .neq (.tmp 7) (.tmp 9)⟩])
 (.cond (.tmp 10) (.seq (.reg [⟨(some 4), none, .mov (.lit (.bool false))⟩])
 (.ret))
 (.skip)))
 (.seq (.seq (.reg [⟨(some 5), none, .mov (.lit (.int .i64 0))⟩])
 (.block 0 (.loop (.seq (.seq (.reg [⟨(some 11), none, .mov (.tmp 5)⟩,
 ⟨(some 12), none, .mov (.tmp 0)⟩,
 ⟨(some 13), none, .len (.tmp 12)⟩,
 ⟨(some 14), none, .bin .lss (.tmp 11) (.tmp 13)⟩])
 (.cond (.tmp 14) (.skip)
 (.exit 0)))
 (.seq (.block 1 (.seq (.draw (.step ⟨(some 17), none, .mov (.tmp 0)⟩ (
 .step ⟨(some 18), none, .mov (.tmp 5)⟩ (
 .step ⟨(some 19), none, .iaddr 1 (.tmp 17) (.tmp 18)⟩ (
 .step ⟨(some 20), none, .load false 1 (.tmp 19)⟩ (
 .step ⟨(some 21), none, .mov (.tmp 1)⟩ (
 .step ⟨(some 22), none, .mov (.tmp 5)⟩ (
 .step ⟨(some 23), none, .iaddr 1 (.tmp 21) (.tmp 22)⟩ (
 .step ⟨(some 24), none, .load false 1 (.tmp 23)⟩ (
 .step ⟨(some 25), none, .bin .neq (.tmp 20) (.tmp 24)⟩ (
 .done)))))))))))
 (.cond (.tmp 25) (.seq (.reg [⟨(some 4), none, .mov (.lit (.bool false))⟩])
 (.ret))
 (.skip))))
 (.reg [⟨(some 15), none, .mov (.tmp 5)⟩,
 ⟨(some 16), none, .bin .add (.tmp 15) (.lit (.int .i64 1))⟩,
 ⟨(some 5), none, .mov (.tmp 16)⟩]))))))
 (.seq (.reg [⟨(some 4), none, .mov (.lit (.bool true))⟩])
 (.ret))))
theorem k32 : FnC Tryd.prog 32 26 [] [] [.tmp 4] c32 2 := ⟨Tryd.f32, _, Tryd.func32, rfl, by decide, rfl, by decide, by kernel_rfl, by kernel_rfl⟩
/-- dipworks/dipworksref04.check -/
def c48 : AC :=
 .seq (.reg [⟨(some 2), none, .box (.tmp 0)⟩,
 ⟨(some 4), none, .mov (.lit (.int .i64 0))⟩])
 (.seq (.seq (.reg [⟨(some 5), none, .load true 5 (.tmp 2)⟩,
 ⟨(some 6), none, .call (.fn 29) [(.tmp 5)]⟩,
 ⟨(some 7), none, .un .not (.tmp 6)⟩])
 (.cond (.tmp 7) (.seq (.reg [⟨(some 4), none, .mov (.lit (.int .i64 1))⟩])
 (.ret))
 (.skip)))
 (.seq (.seq (.reg [⟨(some 8), none, .mov (.tmp 1)⟩,
 ⟨(some 9), none, .un .not (.tmp 8)⟩])
 (.cond (.tmp 9) (.seq (.reg [⟨(some 4), none, .mov (.lit (.int .i64 2))⟩])
 (.ret))
 (.skip)))
 (.seq (.reg [⟨(some 4), none, .mov (.lit (.int .i64 0))⟩])
 (.ret))))
theorem k48 : FnC Tryd.prog 48 10 [] [] [.tmp 4] c48 2 := ⟨Tryd.f48, _, Tryd.func48, rfl, by decide, rfl, by decide, by kernel_rfl, by kernel_rfl⟩
/-- dipworks/dipworksref04.Hour -/
def c49 : AC :=
 .seq (.reg [⟨(some 2), none, .box (.tmp 0)⟩,
 ⟨(some 4), none, .mov (.lit (.bool false))⟩])
 (.seq (.reg [⟨(some 5), none, .mov (.tmp 1)⟩,
 ⟨(some 6), none, .faddr 2 (.tmp 2)⟩,
 ⟨(some 7), none, .load false 1 (.tmp 6)⟩,
 ⟨(some 8), none, .len (.tmp 7)⟩,
 ⟨(some 9), none, .bin .sub (.tmp 8) (.lit (.int .i64 1))⟩,
 ⟨(some 10), none, .call (.fn 71) [(.tmp 5), (.lit (.int .i64 0)), (.tmp 9)]⟩,
 ⟨(some 4), none, .mov (.tmp 10)⟩])
 (.ret))
theorem k49 : FnC Tryd.prog 49 11 [] [] [.tmp 4] c49 2 := ⟨Tryd.f49, _, Tryd.func49, rfl, by decide, rfl, by decide, by kernel_rfl, by kernel_rfl⟩
/-- dipworks/dipworksref04.Row -/
def c50 : AC :=
 .seq (.reg [⟨(some 2), none, .box (.tmp 0)⟩,
 ⟨(some 4), none, .mov (.lit (.bool false))⟩])
 (.seq (.reg [⟨(some 5), none, .mov (.tmp 1)⟩,
 ⟨(some 6), none, .faddr 0 (.tmp 2)⟩,
 ⟨(some 7), none, .load false 1 (.tmp 6)⟩,
 ⟨(some 8), none, .bin .sub (.tmp 7) (.lit (.int .i64 1))⟩,
 ⟨(some 9), none, .call (.fn 71) [(.tmp 5), (.lit (.int .i64 0)), (.tmp 8)]⟩,
 ⟨(some 4), none, .mov (.tmp 9)⟩])
 (.ret))
theorem k50 : FnC Tryd.prog 50 10 [] [] [.tmp 4] c50 2 := ⟨Tryd.f50, _, Tryd.func50, rfl, by decide, rfl, by decide, by kernel_rfl, by kernel_rfl⟩
/-- dipworks/dipworksref04.Deep -/
def c51 : AC :=
 .seq (.reg [⟨(some 3), none, .box (.tmp 0)⟩,
 ⟨(some 6), none, .mov (.lit (.int .i64 0))⟩])
 (.seq (.reg [⟨(some 7), none, .mov (.tmp 1)⟩,
 ⟨(some 8), none, .faddr 1 (.tmp 3)⟩,
 ⟨(some 9), none, .load false 1 (.tmp 8)⟩,
 ⟨(some 10), none, .mov (.tmp 2)⟩,
 ⟨(some 11), none, .bin .mul (.tmp 9) (.tmp 10)⟩,
 ⟨(some 12), none, .bin .sub (.tmp 7) (.tmp 11)⟩,
 ⟨(some 13), none, .mxmn true (.lit (.int .i64 0)) [(.tmp 12)]⟩,
 ⟨(some 6), none, .mov (.tmp 13)⟩])
 (.ret))
theorem k51 : FnC Tryd.prog 51 14 [] [] [.tmp 6] c51 3 := ⟨Tryd.f51, _, Tryd.func51, rfl, by decide, rfl, by decide, by kernel_rfl, by kernel_rfl⟩
/-- dipworks/dipworksref04.Hut -/
def c56 : AC :=
 .seq (.reg [⟨(some 2), none, .box (.tmp 0)⟩,
 ⟨(some 4), none, .mov (.lit (.bool false))⟩])
 (.seq (.reg [⟨(some 5), none, .mov (.tmp 1)⟩,
 ⟨(some 6), none, .faddr 4 (.tmp 2)⟩,
 ⟨(some 7), none, .load false 1 (.tmp 6)⟩,
 ⟨(some 8), none, .len (.tmp 7)⟩,
 ⟨(some 9), none, .bin .sub (.tmp 8) (.lit (.int .i64 1))⟩,
 ⟨(some 10), none, .call (.fn 71) [(.tmp 5), (.lit (.int .i64 0)), (.tmp 9)]⟩,
 ⟨(some 4), none, .mov (.tmp 10)⟩])
 (.ret))
theorem k56 : FnC Tryd.prog 56 11 [] [] [.tmp 4] c56 2 := ⟨Tryd.f56, _, Tryd.func56, rfl, by decide, rfl, by decide, by kernel_rfl, by kernel_rfl⟩
/-- dipworks/dipworksref04.can -/
def c57 : AC :=
 .seq (.reg [⟨(some 3), none, .box (.tmp 0)⟩,
 ⟨(some 6), none, .mov (.lit (.slice none 0 0))⟩])
 (.seq (.reg [⟨(some 13), none, .faddr 4 (.tmp 3)⟩,
 ⟨(some 14), none, .load false 1 (.tmp 13)⟩,
 ⟨(some 15), none, .mov (.tmp 1)⟩,
 ⟨(some 16), none, .iaddr 3 (.tmp 14) (.tmp 15)⟩,
 ⟨(some 17), none, .faddr 2 (.tmp 16)⟩,
 ⟨(some 18), none, .load false 1 (.tmp 17)⟩,
 ⟨(some 19), none, .bslice 1 (.int .i64 0) 1 [(0, (.tmp 18))]⟩,
 ⟨(some 7), none, .mov (.tmp 19)⟩])
 (.seq (.seq (.reg [⟨(some 8), none, .mov (.lit (.int .i64 0))⟩])
 (.block 0 (.loop (.seq (.seq (.reg [⟨(some 20), none, .mov (.tmp 8)⟩,
 ⟨(some 21), none, .mov (.tmp 2)⟩,
 ⟨(some 22), none, .bin .lss (.tmp 20) (.tmp 21)⟩])
 (.cond (.tmp 22) (.skip)
 (.exit 0)))
 (.seq (.block 1 (.seq (.reg [⟨(some 9), none, .mov (.lit (.slice none 0 0))⟩])
 (.seq (.seq (.reg [⟨(some 10), none, .mov (.lit (.int .i64 0))⟩])
 (.block 2 (.loop (.seq (.seq (.reg [⟨(some 25), none, .mov (.tmp 10)⟩,
 ⟨(some 26), none, .mov (.tmp 7)⟩,
 ⟨(some 27), none, .len (.tmp 26)⟩,
 ⟨(some 28), none, .bin .lss (.tmp 25) (.tmp 27)⟩])
 (.cond (.tmp 28) (.skip)
 (.exit 2)))
 (.seq (.block 3 (.seq (.reg [⟨(some 31), none, .faddr 2 (.tmp 3)⟩,
 ⟨(some 32), none, .load false 1 (.tmp 31)⟩,
 ⟨(some 33), none, .mov (.tmp 8)⟩,
 ⟨(some 34), none, .iaddr 2 (.tmp 32) (.tmp 33)⟩,
 ⟨(some 35), none, .faddr 0 (.tmp 34)⟩,
 ⟨(some 36), none, .load false 1 (.tmp 35)⟩,
 ⟨(some 11), none, .mov (.tmp 36)⟩])
 (.block 4 (.loop (.seq (.seq (.reg [⟨(some 37), none, .mov (.tmp 11)⟩,
 ⟨(some 38), none, .faddr 2 (.tmp 3)⟩,
 ⟨(some 39), none, .load false 1 (.tmp 38)⟩,
 ⟨(some 40), none, .mov (.tmp 8)⟩,
 ⟨(some 41), none, .iaddr 2 (.tmp 39) (.tmp 40)⟩,
 ⟨(some 42), none, .faddr 1 (.tmp 41)⟩,
 ⟨(some 43), none, .load false 1 (.tmp 42)⟩,
 ⟨(some 44), none, .bin .leq (.tmp 37) (.tmp 43)⟩])
 (.cond (.tmp 44) (.skip)
 (.exit 4)))
 (.seq (.block 5 (.seq (.reg [⟨(some 47), none, .faddr 3 (.tmp 3)⟩,
 ⟨(some 48), none, .load false 1 (.tmp 47)⟩,
 ⟨(some 49), none, .mov (.tmp 8)⟩,
 ⟨(some 50), none, .iaddr 2 (.tmp 48) (.tmp 49)⟩,
 ⟨(some 51), none, .faddr 0 (.tmp 50)⟩,
 ⟨(some 52), none, .load false 1 (.tmp 51)⟩,
 ⟨(some 12), none, .mov (.tmp 52)⟩])
 (.block 6 (.loop (.seq (.seq (.reg [⟨(some 53), none, .mov (.tmp 12)⟩,
 ⟨(some 54), none, .faddr 3 (.tmp 3)⟩,
 ⟨(some 55), none, .load false 1 (.tmp 54)⟩,
 ⟨(some 56), none, .mov (.tmp 8)⟩,
 ⟨(some 57), none, .iaddr 2 (.tmp 55) (.tmp 56)⟩,
 ⟨(some 58), none, .faddr 1 (.tmp 57)⟩,
 ⟨(some 59), none, .load false 1 (.tmp 58)⟩,
 ⟨(some 60), none, .bin .leq (.tmp 53) (.tmp 59)⟩])
 (.cond (.tmp 60) (.skip)
 (.exit 6)))
 (.seq (.block 7 (.draw (.step ⟨(some 63), none, .mov (.tmp 9)⟩ (
 .step ⟨(some 64), none, .load true 5 (.tmp 3)⟩ (
 .step ⟨(some 65), none, .mov (.tmp 1)⟩ (
 .step ⟨(some 66), none, .mov (.tmp 7)⟩ (
 .step ⟨(some 67), none, .mov (.tmp 10)⟩ (
 .step ⟨(some 68), none, .iaddr 1 (.tmp 66) (.tmp 67)⟩ (
 .step ⟨(some 69), none, .load false 1 (.tmp 68)⟩ (
 .step ⟨(some 70), none, .mov (.tmp 11)⟩ (
 .step ⟨(some 71), none, .mov (.tmp 12)⟩ (
 .ev ⟨(some 72), none, .call (.fn 82) [(.tmp 64), (.tmp 65), (.tmp 69), (.tmp 70), (.tmp 71)]⟩ [⟨(some 68), none, .iaddr 1 (.tmp 66) (.tmp 67)⟩] (
 .ev ⟨(some 73), none, .call (.fn 81) [(.tmp 63), (.tmp 72)]⟩ [⟨(some 69), none, .load false 1 (.tmp 68)⟩, ⟨(some 68), none, .iaddr 1 (.tmp 66) (.tmp 67)⟩, ⟨(some 64), none, .load true 5 (.tmp 3)⟩] (
 .step ⟨(some 9), none, .mov (.tmp 73)⟩ (
 .done))
 (.stop))
 (.stop)))))))))))))
 (.reg [⟨(some 61), none, .mov (.tmp 12)⟩,
 ⟨(some 62), none, .bin .add (.tmp 61) (.lit (.int .i64 1))⟩,
 ⟨(some 12), none, .mov (.tmp 62)⟩])))))))
 (.reg [⟨(some 45), none, .mov (.tmp 11)⟩,
 ⟨(some 46), none, .bin .add (.tmp 45) (.lit (.int .i64 1))⟩,
 ⟨(some 11), none, .mov (.tmp 46)⟩])))))))
 (.reg [⟨(some 29), none, .mov (.tmp 10)⟩,
 ⟨(some 30), none, .bin .add (.tmp 29) (.lit (.int .i64 1))⟩,
 ⟨(some 10), none, .mov (.tmp 30)⟩]))))))
 (.reg [⟨(some 74), none, .mov (.tmp 9)⟩,
 ⟨(some 7), none, .mov (.tmp 74)⟩]))))
 (.reg [⟨(some 23), none, .mov (.tmp 8)⟩,
 ⟨(some 24), none, .bin .add (.tmp 23) (.lit (.int .i64 1))⟩,
 ⟨(some 8), none, .mov (.tmp 24)⟩]))))))
 (.seq (.reg [⟨(some 75), none, .mov (.tmp 7)⟩,
 ⟨(some 6), none, .mov (.tmp 75)⟩])
 (.ret))))
theorem k57 : FnC Tryd.prog 57 76 [] [] [.tmp 6] c57 3 := ⟨Tryd.f57, _, Tryd.func57, rfl, by decide, rfl, by decide, by kernel_rfl, by kernel_rfl⟩
/-- dipworks/dipworksref04.power -/
def c58 : AC :=
 .seq (.reg [⟨(some 2), none, .mov (.lit (.int .i64 0))⟩])
 (.seq (.reg [⟨(some 3), none, .mov (.lit (.int .i64 1))⟩])
 (.seq (.seq (.reg [⟨(some 4), none, .mov (.lit (.int .i64 0))⟩])
 (.block 0 (.loop (.seq (.seq (.reg [⟨(some 5), none, .mov (.tmp 4)⟩,
 ⟨(some 6), none, .mov (.tmp 0)⟩,
 ⟨(some 7), none, .bin .lss (.tmp 5) (.tmp 6)⟩])
 (.cond (.tmp 7) (.skip)
 (.exit 0)))
 (.seq (.block 1 (.reg [⟨(some 10), none, .mov (.tmp 3)⟩,
 ⟨(some 11), none, .bin .mul (.lit (.int .i64 2)) (.tmp 10)⟩,
 ⟨(some 3), none, .mov (.tmp 11)⟩]))
 (.reg [⟨(some 8), none, .mov (.tmp 4)⟩,
 ⟨(some 9), none, .bin .add (.tmp 8) (.lit (.int .i64 1))⟩,
 ⟨(some 4), none, .mov (.tmp 9)⟩]))))))
 (.seq (.reg [⟨(some 12), none, .mov (.tmp 3)⟩,
 ⟨(some 2), none, .mov (.tmp 12)⟩])
 (.ret))))
theorem k58 : FnC Tryd.prog 58 13 [] [] [.tmp 2] c58 1 := ⟨Tryd.f58, _, Tryd.func58, rfl, by decide, rfl, by decide, by kernel_rfl, by kernel_rfl⟩
/-- dipworks/dipworksref04.lifted -/
def c60 : AC :=
 .seq (.reg [⟨(some 3), none, .box (.tmp 0)⟩,
 ⟨(some 6), none, .mov (.lit (.bool false))⟩,
 ⟨(some 7), none, .mov (.lit (.bool false))⟩])
 (.seq (.reg [⟨(some 8), none, .mov (.lit (.bool false))⟩,
 ⟨(some 9), none, .mov (.lit (.bool false))⟩])
 (.seq (.reg [⟨(some 14), none, .load true 5 (.tmp 3)⟩,
 ⟨(some 15), none, .mov (.tmp 1)⟩,
 ⟨(some 16), none, .mov (.tmp 2)⟩,
 ⟨(some 17), none, .call (.fn 57) [(.tmp 14), (.tmp 15), (.tmp 16)]⟩,
 ⟨(some 10), none, .mov (.tmp 17)⟩])
 (.seq (.seq (.reg [⟨(some 11), none, .mov (.lit (.int .i64 0))⟩])
 (.block 0 (.loop (.seq (.seq (.reg [⟨(some 18), none, .mov (.tmp 11)⟩,
 ⟨(some 19), none, .mov (.tmp 10)⟩,
 ⟨(some 20), none, .len (.tmp 19)⟩,
 ⟨(some 21), none, .bin .lss (.tmp 18) (.tmp 20)⟩])
 (.cond (.tmp 21) (.skip)
 (.exit 0)))
 (.seq (.block 1 (.seq (.reg [⟨(some 24), none, .faddr 2 (.tmp 3)⟩,
 ⟨(some 25), none, .load false 1 (.tmp 24)⟩,
 ⟨(some 26), none, .mov (.tmp 2)⟩,
 ⟨(some 27), none, .iaddr 2 (.tmp 25) (.tmp 26)⟩,
 ⟨(some 28), none, .faddr 0 (.tmp 27)⟩,
 ⟨(some 29), none, .load false 1 (.tmp 28)⟩,
 ⟨(some 12), none, .mov (.tmp 29)⟩])
 (.block 2 (.loop (.seq (.seq (.reg [⟨(some 30), none, .mov (.tmp 12)⟩,
 ⟨(some 31), none, .faddr 2 (.tmp 3)⟩,
 ⟨(some 32), none, .load false 1 (.tmp 31)⟩,
 ⟨(some 33), none, .mov (.tmp 2)⟩,
 ⟨(some 34), none, .iaddr 2 (.tmp 32) (.tmp 33)⟩,
 ⟨(some 35), none, .faddr 1 (.tmp 34)⟩,
 ⟨(some 36), none, .load false 1 (.tmp 35)⟩,
 ⟨(some 37), none, .bin .leq (.tmp 30) (.tmp 36)⟩])
 (.cond (.tmp 37) (.skip)
 (.exit 2)))
 (.seq (.block 3 (.seq (.reg [⟨(some 40), none, .faddr 3 (.tmp 3)⟩,
 ⟨(some 41), none, .load false 1 (.tmp 40)⟩,
 ⟨(some 42), none, .mov (.tmp 2)⟩,
 ⟨(some 43), none, .iaddr 2 (.tmp 41) (.tmp 42)⟩,
 ⟨(some 44), none, .faddr 0 (.tmp 43)⟩,
 ⟨(some 45), none, .load false 1 (.tmp 44)⟩,
 ⟨(some 13), none, .mov (.tmp 45)⟩])
 (.block 4 (.loop (.seq (.seq (.reg [⟨(some 46), none, .mov (.tmp 13)⟩,
 ⟨(some 47), none, .faddr 3 (.tmp 3)⟩,
 ⟨(some 48), none, .load false 1 (.tmp 47)⟩,
 ⟨(some 49), none, .mov (.tmp 2)⟩,
 ⟨(some 50), none, .iaddr 2 (.tmp 48) (.tmp 49)⟩,
 ⟨(some 51), none, .faddr 1 (.tmp 50)⟩,
 ⟨(some 52), none, .load false 1 (.tmp 51)⟩,
 ⟨(some 53), none, .bin .leq (.tmp 46) (.tmp 52)⟩])
 (.cond (.tmp 53) (.skip)
 (.exit 4)))
 (.seq (.block 5 (.seq (.draw (.step ⟨(some 56), none, .load true 5 (.tmp 3)⟩ (
 .step ⟨(some 57), none, .mov (.tmp 1)⟩ (
 .step ⟨(some 58), none, .mov (.tmp 10)⟩ (
 .step ⟨(some 59), none, .mov (.tmp 11)⟩ (
 .step ⟨(some 60), none, .iaddr 1 (.tmp 58) (.tmp 59)⟩ (
 .step ⟨(some 61), none, .load false 1 (.tmp 60)⟩ (
 .step ⟨(some 62), none, .mov (.tmp 12)⟩ (
 .step ⟨(some 63), none, .mov (.tmp 13)⟩ (
 .ev ⟨(some 64), none, .call (.fn 83) [(.tmp 56), (.tmp 57), (.tmp 61), (.tmp 62), (.tmp 63)]⟩ [⟨(some 60), none, .iaddr 1 (.tmp 58) (.tmp 59)⟩] (
 .done)
 (.stop)))))))))))
 (.cond (.tmp 64) (.reg [⟨(some 8), none, .mov (.lit (.bool true))⟩])
 (.reg [⟨(some 9), none, .mov (.lit (.bool true))⟩]))))
 (.reg [⟨(some 54), none, .mov (.tmp 13)⟩,
 ⟨(some 55), none, .bin .add (.tmp 54) (.lit (.int .i64 1))⟩,
 ⟨(some 13), none, .mov (.tmp 55)⟩])))))))
 (.reg [⟨(some 38), none, .mov (.tmp 12)⟩,
 ⟨(some 39), none, .bin .add (.tmp 38) (.lit (.int .i64 1))⟩,
 ⟨(some 12), none, .mov (.tmp 39)⟩])))))))
 (.reg [⟨(some 22), none, .mov (.tmp 11)⟩,
 ⟨(some 23), none, .bin .add (.tmp 22) (.lit (.int .i64 1))⟩,
 ⟨(some 11), none, .mov (.tmp 23)⟩]))))))
 (.seq (.reg [⟨(some 65), none, .mov (.tmp 8)⟩,
 ⟨(some 66), none, .mov (.tmp 9)⟩,
 ⟨(some 6), none, .mov (.tmp 65)⟩,
 ⟨(some 7), none, .mov (.tmp 66)⟩])
 (.ret)))))
theorem k60 : FnC Tryd.prog 60 67 [] [] [.tmp 6, .tmp 7] c60 3 := ⟨Tryd.f60, _, Tryd.func60, rfl, by decide, rfl, by decide, by kernel_rfl, by kernel_rfl⟩
/-- dipworks/dipworksref04.lost -/
def c61 : AC :=
 .seq (.reg [⟨(some 2), none, .box (.tmp 0)⟩,
 ⟨(some 4), none, .mov (.lit (.bool false))⟩,
 ⟨(some 5), none, .mov (.lit (.bool false))⟩])
 (.seq (.reg [⟨(some 6), none, .mov (.lit (.bool false))⟩,
 ⟨(some 7), none, .mov (.lit (.bool false))⟩])
 (.seq (.reg [⟨(some 10), none, .load true 5 (.tmp 2)⟩,
 ⟨(some 11), none, .mov (.tmp 1)⟩,
 ⟨(some 12), none, .faddr 2 (.tmp 2)⟩,
 ⟨(some 13), none, .load false 1 (.tmp 12)⟩,
 ⟨(some 14), none, .len (.tmp 13)⟩,
 ⟨(some 15), none, .call (.fn 57) [(.tmp 10), (.tmp 11), (.tmp 14)]⟩,
 ⟨(some 8), none, .mov (.tmp 15)⟩])
 (.seq (.seq (.reg [⟨(some 9), none, .mov (.lit (.int .i64 0))⟩])
 (.block 0 (.loop (.seq (.seq (.reg [⟨(some 16), none, .mov (.tmp 9)⟩,
 ⟨(some 17), none, .mov (.tmp 8)⟩,
 ⟨(some 18), none, .len (.tmp 17)⟩,
 ⟨(some 19), none, .bin .lss (.tmp 16) (.tmp 18)⟩])
 (.cond (.tmp 19) (.skip)
 (.exit 0)))
 (.seq (.block 1 (.seq (.reg [⟨(some 22), none, .mov (.tmp 8)⟩,
 ⟨(some 23), none, .mov (.tmp 9)⟩,
 ⟨(some 24), none, .iaddr 1 (.tmp 22) (.tmp 23)⟩,
 ⟨(some 25), none, .load false 1 (.tmp 24)⟩,
 ⟨(some 26), none, .bin .lss (.tmp 25) (.lit (.int .i64 0))⟩])
 (.cond (.tmp 26) (.reg [⟨(some 6), none, .mov (.lit (.bool true))⟩])
 (.reg [⟨(some 7), none, .mov (.lit (.bool true))⟩]))))
 (.reg [⟨(some 20), none, .mov (.tmp 9)⟩,
 ⟨(some 21), none, .bin .add (.tmp 20) (.lit (.int .i64 1))⟩,
 ⟨(some 9), none, .mov (.tmp 21)⟩]))))))
 (.seq (.reg [⟨(some 27), none, .mov (.tmp 6)⟩,
 ⟨(some 28), none, .mov (.tmp 7)⟩,
 ⟨(some 4), none, .mov (.tmp 27)⟩,
 ⟨(some 5), none, .mov (.tmp 28)⟩])
 (.ret)))))
theorem k61 : FnC Tryd.prog 61 29 [] [] [.tmp 4, .tmp 5] c61 2 := ⟨Tryd.f61, _, Tryd.func61, rfl, by decide, rfl, by decide, by kernel_rfl, by kernel_rfl⟩
/-- dipworks/dipworksref04.first -/
def c64 : AC :=
 .seq (.reg [⟨(some 2), none, .box (.tmp 0)⟩,
 ⟨(some 4), none, .mov (.lit (.int .i64 0))⟩])
 (.seq (.seq (.reg [⟨(some 5), none, .mov (.lit (.int .i64 0))⟩])
 (.block 0 (.loop (.seq (.seq (.reg [⟨(some 8), none, .mov (.tmp 5)⟩,
 ⟨(some 9), none, .faddr 2 (.tmp 2)⟩,
 ⟨(some 10), none, .load false 1 (.tmp 9)⟩,
 ⟨(some 11), none, .len (.tmp 10)⟩,
 ⟨(some 12), none, .bin .lss (.tmp 8) (.tmp 11)⟩])
 (.cond (.tmp 12) (.skip)
 (.exit 0)))
 (.seq (.block 1 (.seq (.reg [⟨(some 16), none, .load true 5 (.tmp 2)⟩,
 ⟨(some 17), none, .mov (.tmp 1)⟩,
 ⟨(some 18), none, .mov (.tmp 5)⟩,
 ⟨(some 19), none, .call (.fn 60) [(.tmp 16), (.tmp 17), (.tmp 18)]⟩,
 ⟨(some 15), none, .mov (.tmp 19)⟩,
 ⟨(some 20), none, .ext (.tmp 15) 0⟩,
 ⟨(some 21), none, .ext (.tmp 15) 1⟩,
 ⟨(some 6), none, .mov (.tmp 20)⟩,
 ⟨(some 7), none, .mov (.tmp 21)⟩])
 (.seq (.reg [⟨(some 22), none, .mov (.tmp 6)⟩])
 (.cond (.tmp 22) (.seq (.reg [⟨(some 23), none, .mov (.tmp 5)⟩,
 ⟨(some 4), none, .mov (.tmp 23)⟩])
 (.ret))
 (.skip)))))
 (.reg [⟨(some 13), none, .mov (.tmp 5)⟩,
 ⟨(some 14), none, .bin .add (.tmp 13) (.lit (.int .i64 1))⟩,
 ⟨(some 5), none, .mov (.tmp 14)⟩]))))))
 (.seq (.reg [⟨(some 4), none, .mov (.lit (.int .i64 (-1)))⟩])
 (.ret)))
theorem k64 : FnC Tryd.prog 64 24 [] [] [.tmp 4] c64 2 := ⟨Tryd.f64, _, Tryd.func64, rfl, by decide, rfl, by decide, by kernel_rfl, by kernel_rfl⟩
/-- dipworks/dipworksref04.With -/
def c68 : AC :=
 .seq (.reg [⟨(some 4), none, .box (.tmp 0)⟩,
 ⟨(some 8), none, .alloc [(.int .i64 0), (.int .i64 0), (.slice none 0 0), (.slice none 0 0), (.slice none 0 0)]⟩])
 (.seq (.reg [⟨(some 10), none, .load true 5 (.tmp 4)⟩,
 ⟨(some 9), none, .alloc [(.int .i64 0), (.int .i64 0), (.slice none 0 0), (.slice none 0 0), (.slice none 0 0)]⟩,
 ⟨none, none, .store 5 (.tmp 9) (.tmp 10)⟩])
 (.seq (.reg [⟨(some 11), none, .bslice 3 (.agg #[(.int .i64 0), (.int .i64 0), (.int .i64 0)]) 0 []⟩,
 ⟨(some 12), none, .faddr 4 (.tmp 4)⟩,
 ⟨(some 13), none, .load false 1 (.tmp 12)⟩,
 ⟨(some 14), none, .app 3 24 (.tmp 11) (.tmp 13)⟩,
 ⟨(some 15), none, .faddr 4 (.tmp 9)⟩,
 ⟨none, none, .store 1 (.tmp 15) (.tmp 14)⟩])
 (.seq (.draw (.step ⟨(some 16), none, .faddr 4 (.tmp 9)⟩ (
 .step ⟨(some 17), none, .load false 1 (.tmp 16)⟩ (
 .step ⟨(some 18), none, .mov (.tmp 1)⟩ (
 .step ⟨(some 19), none, .mov (.tmp 2)⟩ (
 .step ⟨(some 20), none, .mov (.tmp 3)⟩ (
 .step ⟨(some 21), none, .faddr 4 (.tmp 4)⟩ (
 .step ⟨(some 22), none, .load false 1 (.tmp 21)⟩ (
 .step ⟨(some 23), none, .mov (.tmp 1)⟩ (
 .step ⟨(some 24), none, .iaddr 3 (.tmp 22) (.tmp 23)⟩ (
 .step ⟨(some 25), none, .faddr 2 (.tmp 24)⟩ (
 .step ⟨(some 26), none, .load false 1 (.tmp 25)⟩ (
 .step ⟨(some 27), none, .build [(.int .i64 0), (.int .i64 0), (.int .i64 0)] [(0, 1, (.tmp 19)), (1, 1, (.tmp 20)), (2, 1, (.tmp 26))]⟩ (
 .step ⟨(some 28), none, .iaddr 3 (.tmp 17) (.tmp 18)⟩ (
 .ev ⟨none, none, .store 3 (.tmp 28) (.tmp 27)⟩ [] (
 .done)
 (.stop))))))))))))))))
 (.seq (.reg [⟨(some 29), none, .load true 5 (.tmp 9)⟩,
 ⟨none, none, .store 5 (.tmp 8) (.tmp 29)⟩])
 (.ret)))))
theorem k68 : FnC Tryd.prog 68 30 [8] [] [.cell 8 true 5] c68 4 := ⟨Tryd.f68, _, Tryd.func68, rfl, by decide, rfl, by decide, by kernel_rfl, by kernel_rfl⟩
/-- dipworks/dipworksref04.in -/
def c71 : AC :=
 .seq (.reg [⟨(some 6), none, .mov (.lit (.bool false))⟩])
 (.seq (.reg [⟨(some 7), none, .mov (.tmp 1)⟩,
 ⟨(some 8), none, .mov (.tmp 0)⟩,
 ⟨(some 9), none, .bin .leq (.tmp 7) (.tmp 8)⟩,
 ⟨(some 10), none, .mov (.tmp 9)⟩,
 ⟨(some 11), (some (10, true)), .mov (.tmp 0)⟩,
 ⟨(some 12), (some (10, true)), .mov (.tmp 2)⟩,
 ⟨(some 13), (some (10, true)), .bin .leq (.tmp 11) (.tmp 12)⟩,
 ⟨(some 14), none, .pick (.tmp 10) (.tmp 13) (.lit (.bool false))⟩,
 ⟨(some 6), none, .mov (.tmp 14)⟩])
 (.ret))
theorem k71 : FnC Tryd.prog 71 15 [] [] [.tmp 6] c71 3 := ⟨Tryd.f71, _, Tryd.func71, rfl, by decide, rfl, by decide, by kernel_rfl, by kernel_rfl⟩
/-- dipworks/dipworksref04.span -/
def c72 : AC :=
 .seq (.reg [⟨(some 2), none, .box (.tmp 0)⟩,
 ⟨(some 4), none, .mov (.lit (.bool false))⟩])
 (.seq (.reg [⟨(some 5), none, .faddr 0 (.tmp 2)⟩,
 ⟨(some 6), none, .load false 1 (.tmp 5)⟩,
 ⟨(some 7), none, .bin .leq (.lit (.int .i64 0)) (.tmp 6)⟩,
 ⟨(some 8), none, .mov (.tmp 7)⟩,
 ⟨(some 9), (some (8, true)), .faddr 0 (.tmp 2)⟩,
 ⟨(some 10), (some (8, true)), .load false 1 (.tmp 9)⟩,
 ⟨(some 11), (some (8, true)), .faddr 1 (.tmp 2)⟩,
 ⟨(some 12), (some (8, true)), .load false 1 (.tmp 11)⟩,
 ⟨(some 13), (some (8, true)), .bin .leq (.tmp 10) (.tmp 12)⟩,
 ⟨(some 14), none, .pick (.tmp 8) (.tmp 13) (.lit (.bool false))⟩,
 ⟨(some 15), none, .mov (.tmp 14)⟩,
 ⟨(some 16), (some (15, true)), .faddr 1 (.tmp 2)⟩,
 ⟨(some 17), (some (15, true)), .load false 1 (.tmp 16)⟩,
 ⟨(some 18), (some (15, true)), .mov (.tmp 1)⟩,
 ⟨(some 19), (some (15, true)), .bin .leq (.tmp 17) (.tmp 18)⟩,
 ⟨(some 20), none, .pick (.tmp 15) (.tmp 19) (.lit (.bool false))⟩,
 ⟨(some 21), none, .mov (.tmp 20)⟩,
 ⟨(some 22), (some (21, true)), .faddr 1 (.tmp 2)⟩,
 ⟨(some 23), (some (21, true)), .load false 1 (.tmp 22)⟩,
 ⟨(some 24), (some (21, true)), .faddr 0 (.tmp 2)⟩,
 ⟨(some 25), (some (21, true)), .load false 1 (.tmp 24)⟩,
 ⟨(some 26), (some (21, true)), .bin .sub (.tmp 23) (.tmp 25)⟩,
 ⟨(some 27), (some (21, true)), .bin .leq (.tmp 26) (.lit (.int .i64 3))⟩,
 ⟨(some 28), none, .pick (.tmp 21) (.tmp 27) (.lit (.bool false))⟩,
 ⟨(some 4), none, .mov (.tmp 28)⟩])
 (.ret))
theorem k72 : FnC Tryd.prog 72 29 [] [] [.tmp 4] c72 2 := ⟨Tryd.f72, _, Tryd.func72, rfl, by decide, rfl, by decide, by kernel_rfl, by kernel_rfl⟩
/-- dipworks/dipworksref04.add -/
def c81 : AC :=
 .seq (.reg [⟨(some 4), none, .mov (.lit (.slice none 0 0))⟩])
 (.seq (.seq (.reg [⟨(some 5), none, .mov (.lit (.int .i64 0))⟩])
 (.block 0 (.loop (.seq (.seq (.reg [⟨(some 6), none, .mov (.tmp 5)⟩,
 ⟨(some 7), none, .mov (.tmp 0)⟩,
 ⟨(some 8), none, .len (.tmp 7)⟩,
 ⟨(some 9), none, .bin .lss (.tmp 6) (.tmp 8)⟩])
 (.cond (.tmp 9) (.skip)
 (.exit 0)))
 (.seq (.block 1 (.seq (.reg [⟨(some 12), none, .mov (.tmp 0)⟩,
 ⟨(some 13), none, .mov (.tmp 5)⟩,
 ⟨(some 14), none, .iaddr 1 (.tmp 12) (.tmp 13)⟩,
 ⟨(some 15), none, .load false 1 (.tmp 14)⟩,
 ⟨(some 16), none, .mov (.tmp 1)⟩,
 ⟨(some 17), none, .bin .eql (.tmp 15) (.tmp 16)⟩])
 (.cond (.tmp 17) (.seq (.reg [⟨(some 18), none, .mov (.tmp 0)⟩,
 ⟨(some 4), none, .mov (.tmp 18)⟩])
 (.ret))
 (.skip))))
 (.reg [⟨(some 10), none, .mov (.tmp 5)⟩,
 ⟨(some 11), none, .bin .add (.tmp 10) (.lit (.int .i64 1))⟩,
 ⟨(some 5), none, .mov (.tmp 11)⟩]))))))
 (.seq (.reg [⟨(some 19), none, .mov (.tmp 0)⟩,
 ⟨(some 20), none, .mov (.tmp 1)⟩,
 ⟨(some 21), none, .bslice 1 (.int .i64 0) 1 [(0, (.tmp 20))]⟩,
 ⟨(some 22), none, .app 1 8 (.tmp 19) (.tmp 21)⟩,
 ⟨(some 4), none, .mov (.tmp 22)⟩])
 (.ret)))
theorem k81 : FnC Tryd.prog 81 23 [] [] [.tmp 4] c81 2 := ⟨Tryd.f81, _, Tryd.func81, rfl, by decide, rfl, by decide, by kernel_rfl, by kernel_rfl⟩
/-- dipworks/dipworksref04.Next -/
def c82 : AC :=
 .seq (.reg [⟨(some 5), none, .box (.tmp 0)⟩,
 ⟨(some 10), none, .mov (.lit (.int .i64 0))⟩])
 (.seq (.seq (.reg [⟨(some 11), none, .load true 5 (.tmp 5)⟩,
 ⟨(some 12), none, .mov (.tmp 1)⟩,
 ⟨(some 13), none, .mov (.tmp 2)⟩,
 ⟨(some 14), none, .mov (.tmp 3)⟩,
 ⟨(some 15), none, .mov (.tmp 4)⟩,
 ⟨(some 16), none, .call (.fn 83) [(.tmp 11), (.tmp 12), (.tmp 13), (.tmp 14), (.tmp 15)]⟩,
 ⟨(some 17), none, .mov (.tmp 16)⟩,
 ⟨(some 18), (some (17, true)), .mov (.tmp 4)⟩,
 ⟨(some 19), (some (17, true)), .faddr 4 (.tmp 5)⟩,
 ⟨(some 20), (some (17, true)), .load false 1 (.tmp 19)⟩,
 ⟨(some 21), (some (17, true)), .mov (.tmp 1)⟩,
 ⟨(some 22), (some (17, true)), .iaddr 3 (.tmp 20) (.tmp 21)⟩,
 ⟨(some 23), (some (17, true)), .faddr 1 (.tmp 22)⟩,
 ⟨(some 24), (some (17, true)), .load false 1 (.tmp 23)⟩,
 ⟨(some 25), (some (17, true)), .bin .gtr (.tmp 18) (.tmp 24)⟩,
 ⟨(some 26), none, .pick (.tmp 17) (.tmp 25) (.lit (.bool false))⟩])
 (.cond (.tmp 26) (.seq (.reg [⟨(some 27), none, .mov (.tmp 2)⟩,
 ⟨(some 28), none, .bin .sub (.tmp 27) (.lit (.int .i64 1))⟩,
 ⟨(some 10), none, .mov (.tmp 28)⟩])
 (.ret))
 (.skip)))
 (.seq (.reg [⟨(some 29), none, .mov (.tmp 2)⟩,
 ⟨(some 10), none, .mov (.tmp 29)⟩])
 (.ret)))
theorem k82 : FnC Tryd.prog 82 30 [] [] [.tmp 10] c82 5 := ⟨Tryd.f82, _, Tryd.func82, rfl, by decide, rfl, by decide, by kernel_rfl, by kernel_rfl⟩
/-- dipworks/dipworksref04.Lifts -/
def c83 : AC :=
 .seq (.reg [⟨(some 5), none, .box (.tmp 0)⟩,
 ⟨(some 10), none, .mov (.lit (.bool false))⟩])
 (.seq (.seq (.reg [⟨(some 12), none, .mov (.tmp 2)⟩,
 ⟨(some 13), none, .bin .lss (.tmp 12) (.lit (.int .i64 0))⟩])
 (.cond (.tmp 13) (.seq (.reg [⟨(some 10), none, .mov (.lit (.bool false))⟩])
 (.ret))
 (.skip)))
 (.seq (.reg [⟨(some 14), none, .load true 5 (.tmp 5)⟩,
 ⟨(some 15), none, .mov (.tmp 3)⟩,
 ⟨(some 16), none, .mov (.tmp 2)⟩,
 ⟨(some 17), none, .call (.fn 51) [(.tmp 14), (.tmp 15), (.tmp 16)]⟩,
 ⟨(some 11), none, .mov (.tmp 17)⟩])
 (.seq (.reg [⟨(some 18), none, .mov (.tmp 11)⟩,
 ⟨(some 19), none, .bin .gtr (.tmp 18) (.lit (.int .i64 0))⟩,
 ⟨(some 20), none, .mov (.tmp 19)⟩,
 ⟨(some 21), (some (20, true)), .mov (.tmp 11)⟩,
 ⟨(some 22), (some (20, true)), .mov (.tmp 4)⟩,
 ⟨(some 23), (some (20, true)), .bin .add (.tmp 21) (.tmp 22)⟩,
 ⟨(some 24), (some (20, true)), .faddr 4 (.tmp 5)⟩,
 ⟨(some 25), (some (20, true)), .load false 1 (.tmp 24)⟩,
 ⟨(some 26), (some (20, true)), .mov (.tmp 1)⟩,
 ⟨(some 27), (some (20, true)), .iaddr 3 (.tmp 25) (.tmp 26)⟩,
 ⟨(some 28), (some (20, true)), .faddr 0 (.tmp 27)⟩,
 ⟨(some 29), (some (20, true)), .load false 1 (.tmp 28)⟩,
 ⟨(some 30), (some (20, true)), .bin .gtr (.tmp 23) (.tmp 29)⟩,
 ⟨(some 31), none, .pick (.tmp 20) (.tmp 30) (.lit (.bool false))⟩,
 ⟨(some 10), none, .mov (.tmp 31)⟩])
 (.ret))))
theorem k83 : FnC Tryd.prog 83 32 [] [] [.tmp 10] c83 5 := ⟨Tryd.f83, _, Tryd.func83, rfl, by decide, rfl, by decide, by kernel_rfl, by kernel_rfl⟩
end Go.Proofs.YtmahocdmkpigjaaDoor

/- Compiled code of functions, printed by program; each is checked to be the program's. No conditions. -/
namespace Go.Proofs.YtmahocdmkpigjaaDoor
open Go Go.Ab
/-- dipworks/dipworkslaw04.far -/
def c13 : AC :=
 .seq (.reg [⟨(some 1), none, .box (.tmp 0)⟩,
 ⟨(some 2), none, .mov (.lit (.bool false))⟩])
 (.seq (.reg [⟨(some 3), none, .faddr 2 (.tmp 1)⟩,
 ⟨(some 4), none, .load false 1 (.tmp 3)⟩,
 ⟨(some 5), none, .len (.tmp 4)⟩,
 ⟨(some 6), none, .faddr 3 (.tmp 1)⟩,
 ⟨(some 7), none, .load false 1 (.tmp 6)⟩,
 ⟨(some 8), none, .len (.tmp 7)⟩,
 ⟨(some 9), none, .faddr 4 (.tmp 1)⟩,
 ⟨(some 10), none, .load false 1 (.tmp 9)⟩,
 ⟨(some 11), none, .len (.tmp 10)⟩,
 ⟨(some 12), none, .mxmn true (.tmp 5) [(.tmp 8), (.tmp 11)]⟩,
 ⟨(some 13), none, .bin .gtr (.tmp 12) (.lit (.int .i64 40))⟩,
 ⟨(some 2), none, .mov (.tmp 13)⟩])
 (.ret))
theorem k13 : FnC Tryd.prog 13 14 [] [] [.tmp 2] c13 1 := ⟨Tryd.f13, _, Tryd.func13, rfl, by decide, rfl, by decide, by kernel_rfl, by kernel_rfl⟩
/-- dipworks/dipworkslaw04.awake -/
def c14 : AC :=
 .seq (.reg [⟨(some 0), none, .mov (.lit (.bool false))⟩])
 (.seq (.reg [⟨(some 21), none, .call (.fn 42) []⟩,
 ⟨(some 1), none, .alloc [(.int .i64 0), (.int .i64 0), (.slice none 0 0), (.slice none 0 0), (.slice none 0 0)]⟩,
 ⟨none, none, .store 5 (.tmp 1) (.tmp 21)⟩])
 (.seq (.reg [⟨(some 23), none, .load true 5 (.tmp 1)⟩,
 ⟨(some 24), none, .call (.fn 15) [(.tmp 23), (.lit (.int .i64 2)), (.lit (.int .i64 1))]⟩,
 ⟨(some 22), none, .mov (.tmp 24)⟩,
 ⟨(some 25), none, .ext (.tmp 22) 0⟩,
 ⟨(some 26), none, .ext (.tmp 22) 1⟩,
 ⟨(some 2), none, .alloc [(.int .i64 0), (.int .i64 0)]⟩,
 ⟨none, none, .store 2 (.tmp 2) (.tmp 25)⟩,
 ⟨(some 3), none, .mov (.tmp 26)⟩])
 (.seq (.reg [⟨(some 28), none, .load true 5 (.tmp 1)⟩,
 ⟨(some 29), none, .call (.fn 17) [(.tmp 28), (.lit (.int .i64 1)), (.lit (.int .i64 1))]⟩,
 ⟨(some 27), none, .mov (.tmp 29)⟩,
 ⟨(some 30), none, .ext (.tmp 27) 0⟩,
 ⟨(some 31), none, .ext (.tmp 27) 1⟩,
 ⟨(some 32), none, .ext (.tmp 27) 2⟩,
 ⟨(some 4), none, .mov (.tmp 30)⟩,
 ⟨(some 5), none, .mov (.tmp 31)⟩,
 ⟨(some 6), none, .mov (.tmp 32)⟩])
 (.seq (.reg [⟨(some 34), none, .load true 5 (.tmp 1)⟩,
 ⟨(some 35), none, .call (.fn 19) [(.tmp 34), (.lit (.int .i64 1))]⟩,
 ⟨(some 33), none, .mov (.tmp 35)⟩,
 ⟨(some 36), none, .ext (.tmp 33) 0⟩,
 ⟨(some 37), none, .ext (.tmp 33) 1⟩,
 ⟨(some 38), none, .ext (.tmp 33) 2⟩,
 ⟨(some 7), none, .mov (.tmp 36)⟩,
 ⟨(some 8), none, .mov (.tmp 37)⟩,
 ⟨(some 9), none, .mov (.tmp 38)⟩])
 (.seq (.reg [⟨(some 40), none, .load true 5 (.tmp 1)⟩,
 ⟨(some 41), none, .call (.fn 21) [(.tmp 40), (.lit (.int .i64 0))]⟩,
 ⟨(some 39), none, .mov (.tmp 41)⟩,
 ⟨(some 42), none, .ext (.tmp 39) 0⟩,
 ⟨(some 43), none, .ext (.tmp 39) 1⟩,
 ⟨(some 10), none, .mov (.tmp 42)⟩,
 ⟨(some 11), none, .mov (.tmp 43)⟩])
 (.seq (.reg [⟨(some 45), none, .load true 5 (.tmp 1)⟩,
 ⟨(some 46), none, .call (.fn 23) [(.tmp 45), (.lit (.int .i64 0))]⟩,
 ⟨(some 44), none, .mov (.tmp 46)⟩,
 ⟨(some 47), none, .ext (.tmp 44) 0⟩,
 ⟨(some 48), none, .ext (.tmp 44) 1⟩,
 ⟨(some 12), none, .mov (.tmp 47)⟩,
 ⟨(some 13), none, .mov (.tmp 48)⟩])
 (.seq (.reg [⟨(some 50), none, .load true 5 (.tmp 1)⟩,
 ⟨(some 51), none, .call (.fn 25) [(.tmp 50), (.lit (.int .i64 0))]⟩,
 ⟨(some 49), none, .mov (.tmp 51)⟩,
 ⟨(some 52), none, .ext (.tmp 49) 0⟩,
 ⟨(some 53), none, .ext (.tmp 49) 1⟩,
 ⟨(some 14), none, .mov (.tmp 52)⟩,
 ⟨(some 15), none, .mov (.tmp 53)⟩])
 (.seq (.reg [⟨(some 55), none, .load true 5 (.tmp 1)⟩,
 ⟨(some 56), none, .call (.fn 27) [(.tmp 55), (.lit (.int .i64 1))]⟩,
 ⟨(some 54), none, .mov (.tmp 56)⟩,
 ⟨(some 57), none, .ext (.tmp 54) 0⟩,
 ⟨(some 58), none, .ext (.tmp 54) 1⟩,
 ⟨(some 16), none, .mov (.tmp 57)⟩,
 ⟨(some 17), none, .mov (.tmp 58)⟩])
 (.seq (.reg [⟨(some 60), none, .load true 5 (.tmp 1)⟩,
 ⟨(some 61), none, .call (.fn 30) [(.tmp 60), (.lit (.int .i64 1))]⟩,
 ⟨(some 59), none, .mov (.tmp 61)⟩,
 ⟨(some 62), none, .ext (.tmp 59) 0⟩,
 ⟨(some 63), none, .ext (.tmp 59) 1⟩,
 ⟨(some 64), none, .ext (.tmp 59) 2⟩,
 ⟨(some 18), none, .mov (.tmp 62)⟩,
 ⟨(some 19), none, .mov (.tmp 63)⟩,
 ⟨(some 20), none, .mov (.tmp 64)⟩])
 (.seq (.seq (.draw (.step ⟨(some 65), none, .load true 2 (.tmp 2)⟩ (
 .ev ⟨(some 66), none, .call (.fn 41) [(.lit (.int .i64 4)), (.lit (.int .i64 5))]⟩ [⟨(some 65), none, .load true 2 (.tmp 2)⟩] (
 .step ⟨(some 67), none, .eqs true [(some .i64), (some .i64)] (.tmp 65) (.tmp 66)⟩ (
 .step ⟨(some 68), none, .mov (.tmp 67)⟩ (
 .step ⟨(some 69), (some (68, false)), .mov (.tmp 3)⟩ (
 .step ⟨(some 70), (some (68, false)), .bin .neq (.tmp 69) (.lit (.int .i64 0))⟩ (
 .step ⟨(some 71), none, .pick (.tmp 68) (.lit (.bool true)) (.tmp 70)⟩ (
 .step ⟨(some 72), none, .mov (.tmp 71)⟩ (
 .step ⟨(some 73), (some (72, false)), .mov (.tmp 4)⟩ (
 .step ⟨(some 74), (some (72, false)), .bin .neq (.tmp 73) (.lit (.int .i64 3))⟩ (
 .step ⟨(some 75), none, .pick (.tmp 72) (.lit (.bool true)) (.tmp 74)⟩ (
 .step ⟨(some 76), none, .mov (.tmp 75)⟩ (
 .step ⟨(some 77), (some (76, false)), .mov (.tmp 5)⟩ (
 .step ⟨(some 78), none, .pick (.tmp 76) (.lit (.bool true)) (.tmp 77)⟩ (
 .step ⟨(some 79), none, .mov (.tmp 78)⟩ (
 .step ⟨(some 80), (some (79, false)), .mov (.tmp 6)⟩ (
 .step ⟨(some 81), (some (79, false)), .bin .neq (.tmp 80) (.lit (.int .i64 0))⟩ (
 .step ⟨(some 82), none, .pick (.tmp 79) (.lit (.bool true)) (.tmp 81)⟩ (
 .step ⟨(some 83), none, .mov (.tmp 82)⟩ (
 .step ⟨(some 84), (some (83, false)), .mov (.tmp 7)⟩ (
 .step ⟨(some 85), (some (83, false)), .bin .neq (.tmp 84) (.lit (.int .i64 4))⟩ (
 .step ⟨(some 86), none, .pick (.tmp 83) (.lit (.bool true)) (.tmp 85)⟩ (
 .step ⟨(some 87), none, .mov (.tmp 86)⟩ (
 .step ⟨(some 88), (some (87, false)), .mov (.tmp 8)⟩ (
 .step ⟨(some 89), (some (87, false)), .bin .neq (.tmp 88) (.lit (.int .i64 14))⟩ (
 .step ⟨(some 90), none, .pick (.tmp 87) (.lit (.bool true)) (.tmp 89)⟩ (
 .step ⟨(some 91), none, .mov (.tmp 90)⟩ (
 .step ⟨(some 92), (some (91, false)), .mov (.tmp 9)⟩ (
 .step ⟨(some 93), (some (91, false)), .bin .neq (.tmp 92) (.lit (.int .i64 0))⟩ (
 .step ⟨(some 94), none, .pick (.tmp 91) (.lit (.bool true)) (.tmp 93)⟩ (
 .step ⟨(some 95), none, .mov (.tmp 94)⟩ (
 .step ⟨(some 96), (some (95, false)), .mov (.tmp 10)⟩ (
 .step ⟨(some 97), (some (95, false)), .bin .neq (.tmp 96) (.lit (.int .i64 1))⟩ (
 .step ⟨(some 98), none, .pick (.tmp 95) (.lit (.bool true)) (.tmp 97)⟩ (
 .step ⟨(some 99), none, .mov (.tmp 98)⟩ (
 .step ⟨(some 100), (some (99, false)), .mov (.tmp 11)⟩ (
 .step ⟨(some 101), (some (99, false)), .bin .neq (.tmp 100) (.lit (.int .i64 0))⟩ (
 .step ⟨(some 102), none, .pick (.tmp 99) (.lit (.bool true)) (.tmp 101)⟩ (
 .done)))))))))))))))))))))))))))))))))))))
 (.stop))))
 (.cond (.tmp 102) (.seq (.reg [⟨(some 0), none, .mov (.lit (.bool false))⟩])
 (.ret))
 (.skip)))
 (.seq (.reg [⟨(some 103), none, .mov (.tmp 12)⟩,
 ⟨(some 104), none, .bin .eql (.tmp 103) (.lit (.int .i64 1))⟩,
 ⟨(some 105), none, .mov (.tmp 104)⟩,
 ⟨(some 106), (some (105, true)), .mov (.tmp 13)⟩,
 ⟨(some 107), (some (105, true)), .bin .eql (.tmp 106) (.lit (.int .i64 0))⟩,
 ⟨(some 108), none, .pick (.tmp 105) (.tmp 107) (.lit (.bool false))⟩,
 ⟨(some 109), none, .mov (.tmp 108)⟩,
 ⟨(some 110), (some (109, true)), .mov (.tmp 14)⟩,
 ⟨(some 111), (some (109, true)), .bin .eql (.tmp 110) (.lit (.int .i64 3))⟩,
 ⟨(some 112), none, .pick (.tmp 109) (.tmp 111) (.lit (.bool false))⟩,
 ⟨(some 113), none, .mov (.tmp 112)⟩,
 ⟨(some 114), (some (113, true)), .mov (.tmp 15)⟩,
 ⟨(some 115), (some (113, true)), .bin .eql (.tmp 114) (.lit (.int .i64 0))⟩,
 ⟨(some 116), none, .pick (.tmp 113) (.tmp 115) (.lit (.bool false))⟩,
 ⟨(some 117), none, .mov (.tmp 116)⟩,
 ⟨(some 118), (some (117, true)), .mov (.tmp 16)⟩,
 ⟨(some 119), (some (117, true)), .bin .eql (.tmp 118) (.lit (.int .i64 8))⟩,
 ⟨(some 120), none, .pick (.tmp 117) (.tmp 119) (.lit (.bool false))⟩,
 ⟨(some 121), none, .mov (.tmp 120)⟩,
 ⟨(some 122), (some (121, true)), .mov (.tmp 17)⟩,
 ⟨(some 123), (some (121, true)), .bin .eql (.tmp 122) (.lit (.int .i64 0))⟩,
 ⟨(some 124), none, .pick (.tmp 121) (.tmp 123) (.lit (.bool false))⟩,
 ⟨(some 125), none, .mov (.tmp 124)⟩,
 ⟨(some 126), (some (125, true)), .mov (.tmp 18)⟩,
 ⟨(some 127), (some (125, true)), .bslice 1 (.int .i64 0) 3 [(0, (.lit (.int .i64 (-1)))), (1, (.lit (.int .i64 0))), (2, (.lit (.int .i64 (-1))))]⟩,
 ⟨(some 128), (some (125, true)), .call (.fn 32) [(.tmp 126), (.tmp 127)]⟩,
 ⟨(some 129), none, .pick (.tmp 125) (.tmp 128) (.lit (.bool false))⟩,
 ⟨(some 130), none, .mov (.tmp 129)⟩,
 ⟨(some 131), (some (130, true)), .mov (.tmp 19)⟩,
 ⟨(some 132), (some (130, true)), .bin .eql (.tmp 131) (.lit (.int .i64 1))⟩,
 ⟨(some 133), none, .pick (.tmp 130) (.tmp 132) (.lit (.bool false))⟩,
 ⟨(some 134), none, .mov (.tmp 133)⟩,
 ⟨(some 135), (some (134, true)), .mov (.tmp 20)⟩,
 ⟨(some 136), (some (134, true)), .bin .eql (.tmp 135) (.lit (.int .i64 0))⟩,
 ⟨(some 137), none, .pick (.tmp 134) (.tmp 136) (.lit (.bool false))⟩,
 ⟨(some 0), none, .mov (.tmp 137)⟩])
 (.ret))))))))))))
theorem k14 : FnC Tryd.prog 14 138 [] [] [.tmp 0] c14 0 := ⟨Tryd.f14, _, Tryd.func14, rfl, by decide, rfl, by decide, by kernel_rfl, by kernel_rfl⟩
/-- dipworks/dipworkslaw04.fine -/
def c33 : AC :=
 .seq (.reg [⟨(some 1), none, .box (.tmp 0)⟩,
 ⟨(some 2), none, .mov (.lit (.bool false))⟩])
 (.seq (.reg [⟨(some 3), none, .load true 5 (.tmp 1)⟩,
 ⟨(some 4), none, .call (.fn 13) [(.tmp 3)]⟩,
 ⟨(some 5), none, .un .not (.tmp 4)⟩,
 ⟨(some 6), none, .mov (.tmp 5)⟩,
 ⟨(some 7), (some (6, true)), .load true 5 (.tmp 1)⟩,
 ⟨(some 8), (some (6, true)), .call (.fn 29) [(.tmp 7)]⟩,
 ⟨(some 9), none, .pick (.tmp 6) (.tmp 8) (.lit (.bool false))⟩,
 ⟨(some 2), none, .mov (.tmp 9)⟩])
 (.ret))
theorem k33 : FnC Tryd.prog 33 10 [] [] [.tmp 2] c33 1 := ⟨Tryd.f33, _, Tryd.func33, rfl, by decide, rfl, by decide, by kernel_rfl, by kernel_rfl⟩
/-- dipworks/dipworkslaw04.span -/
def c41 : AC :=
 .seq (.reg [⟨(some 4), none, .alloc [(.int .i64 0), (.int .i64 0)]⟩])
 (.seq (.reg [⟨(some 5), none, .mov (.tmp 0)⟩,
 ⟨(some 6), none, .mov (.tmp 1)⟩,
 ⟨(some 7), none, .build [(.int .i64 0), (.int .i64 0)] [(0, 1, (.tmp 5)), (1, 1, (.tmp 6))]⟩,
 ⟨none, none, .store 2 (.tmp 4) (.tmp 7)⟩])
 (.ret))
theorem k41 : FnC Tryd.prog 41 8 [4] [] [.cell 4 true 2] c41 2 := ⟨Tryd.f41, _, Tryd.func41, rfl, by decide, rfl, by decide, by kernel_rfl, by kernel_rfl⟩
/-- dipworks/dipworkslaw04.sample -/
def c42 : AC :=
 .seq (.reg [⟨(some 0), none, .alloc [(.int .i64 0), (.int .i64 0), (.slice none 0 0), (.slice none 0 0), (.slice none 0 0)]⟩])
 (.seq (.reg [⟨(some 1), none, .call (.fn 41) [(.lit (.int .i64 3)), (.lit (.int .i64 4))]⟩,
 ⟨(some 2), none, .call (.fn 41) [(.lit (.int .i64 5)), (.lit (.int .i64 5))]⟩,
 ⟨(some 3), none, .call (.fn 41) [(.lit (.int .i64 6)), (.lit (.int .i64 7))]⟩,
 ⟨(some 4), none, .call (.fn 41) [(.lit (.int .i64 4)), (.lit (.int .i64 4))]⟩,
 ⟨(some 5), none, .bslice 2 (.agg #[(.int .i64 0), (.int .i64 0)]) 4 [(0, (.tmp 1)), (1, (.tmp 2)), (2, (.tmp 3)), (3, (.tmp 4))]⟩,
 ⟨(some 6), none, .call (.fn 41) [(.lit (.int .i64 1)), (.lit (.int .i64 1))]⟩,
 ⟨(some 7), none, .call (.fn 41) [(.lit (.int .i64 1)), (.lit (.int .i64 2))]⟩,
 ⟨(some 8), none, .call (.fn 41) [(.lit (.int .i64 2)), (.lit (.int .i64 3))]⟩,
 ⟨(some 9), none, .call (.fn 41) [(.lit (.int .i64 0)), (.lit (.int .i64 1))]⟩,
 ⟨(some 10), none, .bslice 2 (.agg #[(.int .i64 0), (.int .i64 0)]) 4 [(0, (.tmp 6)), (1, (.tmp 7)), (2, (.tmp 8)), (3, (.tmp 9))]⟩,
 ⟨(some 11), none, .build [(.int .i64 0), (.int .i64 0), (.int .i64 0)] [(0, 1, (.lit (.int .i64 6))), (1, 1, (.lit (.int .i64 2)))]⟩,
 ⟨(some 12), none, .build [(.int .i64 0), (.int .i64 0), (.int .i64 0)] [(0, 1, (.lit (.int .i64 4))), (1, 1, (.lit (.int .i64 1))), (2, 1, (.lit (.int .i64 1)))]⟩,
 ⟨(some 13), none, .build [(.int .i64 0), (.int .i64 0), (.int .i64 0)] [(0, 1, (.lit (.int .i64 9))), (2, 1, (.lit (.int .i64 2)))]⟩,
 ⟨(some 14), none, .bslice 3 (.agg #[(.int .i64 0), (.int .i64 0), (.int .i64 0)]) 3 [(0, (.tmp 11)), (1, (.tmp 12)), (2, (.tmp 13))]⟩,
 ⟨(some 15), none, .build [(.int .i64 0), (.int .i64 0), (.slice none 0 0), (.slice none 0 0), (.slice none 0 0)] [(0, 1, (.lit (.int .i64 3))), (1, 1, (.lit (.int .i64 2))), (2, 1, (.tmp 5)), (3, 1, (.tmp 10)), (4, 1, (.tmp 14))]⟩,
 ⟨none, none, .store 5 (.tmp 0) (.tmp 15)⟩])
 (.ret))
theorem k42 : FnC Tryd.prog 42 16 [0] [] [.cell 0 true 5] c42 0 := ⟨Tryd.f42, _, Tryd.func42, rfl, by decide, rfl, by decide, by kernel_rfl, by kernel_rfl⟩
end Go.Proofs.YtmahocdmkpigjaaDoor

/- The statements' own small functions; the document's example. -/
namespace Go.Proofs.YtmahocdmkpigjaaDoor
open Go Go.Ab

theorem span2_ok (lo hi : Int) : ACall Tryd.prog 41 [.t (vi lo), .t (vi hi)] [] (ret (.agg [vi lo, vi hi])) := by
  refine ACall.walk k41 ?_
  unfold c41
  simp only [go_sem, Nat.reduceEqDiff, Nat.reduceAdd, Nat.reduceSub, Nat.reduceMul, Nat.reduceLT, Nat.reduceLeDiff, Nat.reduceMod, Nat.reduceDiv, Int.reduceToNat, Int.reduceLT, Int.reduceLE, Bool.not_true, Bool.not_false, reduceIte, Int.reduceEq, Int.reduceBEq, Int.reduceBNe, Int.reduceGT, Int.reduceGE, Int.reduceNeg, Int.reduceAdd, Int.reduceSub, Nat.reduceBEq, decide_true, decide_false, undef, beq_self_eq_true, bne_self_eq_false, Bool.and_true, Bool.true_and, Bool.and_false, Bool.false_and, Bool.or_true, Bool.true_or, Bool.or_false, Bool.false_or]
  exact finL_ret [] ⟨rfl, rfl, rfl, rfl, _, rfl, res_mk rfl⟩
def smp : Su := { rows := 3, step := 2, water := [(3, 4), (5, 5), (6, 7), (4, 4)], waves := [(1, 1), (1, 2), (2, 3), (0, 1)], huts := [⟨6, 2, 0⟩, ⟨4, 1, 1⟩, ⟨9, 0, 2⟩] }
set_option maxRecDepth 8000 in
set_option maxHeartbeats 4000000 in
theorem sample_ok : ACall Tryd.prog 42 [] [] (ret (.agg (su5 smp))) := by
  refine ACall.walk k42 ?_
  unfold c42
  simp only [go_sem, Nat.reduceEqDiff, Nat.reduceAdd, Nat.reduceSub, Nat.reduceMul, Nat.reduceLT, Nat.reduceLeDiff, Nat.reduceMod, Nat.reduceDiv, Int.reduceToNat, Int.reduceLT, Int.reduceLE, Bool.not_true, Bool.not_false, reduceIte, Int.reduceEq, Int.reduceBEq, Int.reduceBNe, Int.reduceGT, Int.reduceGE, Int.reduceNeg, Int.reduceAdd, Int.reduceSub, Nat.reduceBEq, decide_true, decide_false, undef, beq_self_eq_true, bne_self_eq_false, Bool.and_true, Bool.true_and, Bool.and_false, Bool.false_and, Bool.or_true, Bool.true_or, Bool.or_false, Bool.false_or]
  refine ACallL.quiet1 (span2_ok _ _) rfl rfl rfl ?_
  simp only [go_sem, Nat.reduceEqDiff, Nat.reduceAdd, Nat.reduceSub, Nat.reduceMul, Nat.reduceLT, Nat.reduceLeDiff, Nat.reduceMod, Nat.reduceDiv, Int.reduceToNat, Int.reduceLT, Int.reduceLE, Bool.not_true, Bool.not_false, reduceIte, Int.reduceEq, Int.reduceBEq, Int.reduceBNe, Int.reduceGT, Int.reduceGE, Int.reduceNeg, Int.reduceAdd, Int.reduceSub, Nat.reduceBEq, decide_true, decide_false, undef, beq_self_eq_true, bne_self_eq_false, Bool.and_true, Bool.true_and, Bool.and_false, Bool.false_and, Bool.or_true, Bool.true_or, Bool.or_false, Bool.false_or]
  refine ACallL.quiet1 (span2_ok _ _) rfl rfl rfl ?_
  simp only [go_sem, Nat.reduceEqDiff, Nat.reduceAdd, Nat.reduceSub, Nat.reduceMul, Nat.reduceLT, Nat.reduceLeDiff, Nat.reduceMod, Nat.reduceDiv, Int.reduceToNat, Int.reduceLT, Int.reduceLE, Bool.not_true, Bool.not_false, reduceIte, Int.reduceEq, Int.reduceBEq, Int.reduceBNe, Int.reduceGT, Int.reduceGE, Int.reduceNeg, Int.reduceAdd, Int.reduceSub, Nat.reduceBEq, decide_true, decide_false, undef, beq_self_eq_true, bne_self_eq_false, Bool.and_true, Bool.true_and, Bool.and_false, Bool.false_and, Bool.or_true, Bool.true_or, Bool.or_false, Bool.false_or]
  refine ACallL.quiet1 (span2_ok _ _) rfl rfl rfl ?_
  simp only [go_sem, Nat.reduceEqDiff, Nat.reduceAdd, Nat.reduceSub, Nat.reduceMul, Nat.reduceLT, Nat.reduceLeDiff, Nat.reduceMod, Nat.reduceDiv, Int.reduceToNat, Int.reduceLT, Int.reduceLE, Bool.not_true, Bool.not_false, reduceIte, Int.reduceEq, Int.reduceBEq, Int.reduceBNe, Int.reduceGT, Int.reduceGE, Int.reduceNeg, Int.reduceAdd, Int.reduceSub, Nat.reduceBEq, decide_true, decide_false, undef, beq_self_eq_true, bne_self_eq_false, Bool.and_true, Bool.true_and, Bool.and_false, Bool.false_and, Bool.or_true, Bool.true_or, Bool.or_false, Bool.false_or]
  refine ACallL.quiet1 (span2_ok _ _) rfl rfl rfl ?_
  simp only [go_sem, Nat.reduceEqDiff, Nat.reduceAdd, Nat.reduceSub, Nat.reduceMul, Nat.reduceLT, Nat.reduceLeDiff, Nat.reduceMod, Nat.reduceDiv, Int.reduceToNat, Int.reduceLT, Int.reduceLE, Bool.not_true, Bool.not_false, reduceIte, Int.reduceEq, Int.reduceBEq, Int.reduceBNe, Int.reduceGT, Int.reduceGE, Int.reduceNeg, Int.reduceAdd, Int.reduceSub, Nat.reduceBEq, decide_true, decide_false, undef, beq_self_eq_true, bne_self_eq_false, Bool.and_true, Bool.true_and, Bool.and_false, Bool.false_and, Bool.or_true, Bool.true_or, Bool.or_false, Bool.false_or]
  refine ACallL.quiet1 (span2_ok _ _) rfl rfl rfl ?_
  simp only [go_sem, Nat.reduceEqDiff, Nat.reduceAdd, Nat.reduceSub, Nat.reduceMul, Nat.reduceLT, Nat.reduceLeDiff, Nat.reduceMod, Nat.reduceDiv, Int.reduceToNat, Int.reduceLT, Int.reduceLE, Bool.not_true, Bool.not_false, reduceIte, Int.reduceEq, Int.reduceBEq, Int.reduceBNe, Int.reduceGT, Int.reduceGE, Int.reduceNeg, Int.reduceAdd, Int.reduceSub, Nat.reduceBEq, decide_true, decide_false, undef, beq_self_eq_true, bne_self_eq_false, Bool.and_true, Bool.true_and, Bool.and_false, Bool.false_and, Bool.or_true, Bool.true_or, Bool.or_false, Bool.false_or]
  refine ACallL.quiet1 (span2_ok _ _) rfl rfl rfl ?_
  simp only [go_sem, Nat.reduceEqDiff, Nat.reduceAdd, Nat.reduceSub, Nat.reduceMul, Nat.reduceLT, Nat.reduceLeDiff, Nat.reduceMod, Nat.reduceDiv, Int.reduceToNat, Int.reduceLT, Int.reduceLE, Bool.not_true, Bool.not_false, reduceIte, Int.reduceEq, Int.reduceBEq, Int.reduceBNe, Int.reduceGT, Int.reduceGE, Int.reduceNeg, Int.reduceAdd, Int.reduceSub, Nat.reduceBEq, decide_true, decide_false, undef, beq_self_eq_true, bne_self_eq_false, Bool.and_true, Bool.true_and, Bool.and_false, Bool.false_and, Bool.or_true, Bool.true_or, Bool.or_false, Bool.false_or]
  refine ACallL.quiet1 (span2_ok _ _) rfl rfl rfl ?_
  simp only [go_sem, Nat.reduceEqDiff, Nat.reduceAdd, Nat.reduceSub, Nat.reduceMul, Nat.reduceLT, Nat.reduceLeDiff, Nat.reduceMod, Nat.reduceDiv, Int.reduceToNat, Int.reduceLT, Int.reduceLE, Bool.not_true, Bool.not_false, reduceIte, Int.reduceEq, Int.reduceBEq, Int.reduceBNe, Int.reduceGT, Int.reduceGE, Int.reduceNeg, Int.reduceAdd, Int.reduceSub, Nat.reduceBEq, decide_true, decide_false, undef, beq_self_eq_true, bne_self_eq_false, Bool.and_true, Bool.true_and, Bool.and_false, Bool.false_and, Bool.or_true, Bool.true_or, Bool.or_false, Bool.false_or]
  refine ACallL.quiet1 (span2_ok _ _) rfl rfl rfl ?_
  simp only [go_sem, Nat.reduceEqDiff, Nat.reduceAdd, Nat.reduceSub, Nat.reduceMul, Nat.reduceLT, Nat.reduceLeDiff, Nat.reduceMod, Nat.reduceDiv, Int.reduceToNat, Int.reduceLT, Int.reduceLE, Bool.not_true, Bool.not_false, reduceIte, Int.reduceEq, Int.reduceBEq, Int.reduceBNe, Int.reduceGT, Int.reduceGE, Int.reduceNeg, Int.reduceAdd, Int.reduceSub, Nat.reduceBEq, decide_true, decide_false, undef, beq_self_eq_true, bne_self_eq_false, Bool.and_true, Bool.true_and, Bool.and_false, Bool.false_and, Bool.or_true, Bool.true_or, Bool.or_false, Bool.false_or]
  exact finL_ret [] ⟨rfl, rfl, rfl, rfl, _, rfl, res_mk rfl⟩

def farB (s : Su) : Bool := decide (max (max (s.water.length : Int) s.waves.length) s.huts.length > 40)
theorem far_ok (s : Su) : ACall Tryd.prog 13 [.t (.agg (su5 s))] [] (ret (vb (farB s))) := by
  refine ACall.walk k13 ?_
  unfold c13 su5
  simp only [go_sem, Nat.reduceEqDiff, Nat.reduceAdd, Nat.reduceSub, Nat.reduceMul, Nat.reduceLT, Nat.reduceLeDiff, Nat.reduceMod, Nat.reduceDiv, Int.reduceToNat, Int.reduceLT, Int.reduceLE, Bool.not_true, Bool.not_false, reduceIte, Int.reduceEq, Int.reduceBEq, Int.reduceBNe, Int.reduceGT, Int.reduceGE, Int.reduceNeg, Int.reduceAdd, Int.reduceSub, Nat.reduceBEq, decide_true, decide_false, undef, beq_self_eq_true, bne_self_eq_false, Bool.and_true, Bool.true_and, Bool.and_false, Bool.false_and, Bool.or_true, Bool.true_or, Bool.or_false, Bool.false_or, List.length_map]
  exact finL_ret [] ⟨rfl, rfl, rfl, rfl, _, rfl, res_mk rfl⟩

/-! ### Is a surf valid? -/
theorem rin_ok (n lo hi : Int) : ACall Tryd.prog 71 [.t (vi n), .t (vi lo), .t (vi hi)] [] (ret (vb (wI n lo hi))) := by
  refine ACall.walk k71 ?_
  unfold c71
  rw [wI_eq]
  simp only [go_sem, Nat.reduceEqDiff, Nat.reduceAdd, Nat.reduceSub, Nat.reduceMul, Nat.reduceLT, Nat.reduceLeDiff, Nat.reduceMod, Nat.reduceDiv, Int.reduceToNat, Int.reduceLT, Int.reduceLE, Bool.not_true, Bool.not_false, reduceIte]
  cases hA : decide (lo ≤ n)
  · simp only [go_sem, Nat.reduceEqDiff, Nat.reduceAdd, Nat.reduceSub, Nat.reduceMul, Nat.reduceLT, Nat.reduceLeDiff, Nat.reduceMod, Nat.reduceDiv, Int.reduceToNat, Int.reduceLT, Int.reduceLE, Bool.not_true, Bool.not_false, reduceIte, undef, hA]
    exact finL_ret [] ⟨rfl, rfl, rfl, rfl, _, rfl, res_mk rfl⟩
  · simp only [go_sem, Nat.reduceEqDiff, Nat.reduceAdd, Nat.reduceSub, Nat.reduceMul, Nat.reduceLT, Nat.reduceLeDiff, Nat.reduceMod, Nat.reduceDiv, Int.reduceToNat, Int.reduceLT, Int.reduceLE, Bool.not_true, Bool.not_false, reduceIte, undef, hA]
    exact finL_ret [] ⟨rfl, rfl, rfl, rfl, _, rfl, res_mk rfl⟩
theorem rspan_ok (x : Sp) (high : Int) (hh : high ≤ 100) : ACall Tryd.prog 72 [.t (tSp x), .t (vi high)] [] (ret (vb (nearB x high))) := by
  refine ACall.walk k72 ?_
  unfold c72 tSp nearB
  obtain ⟨lo, hi⟩ := x
  simp only [go_sem, Nat.reduceEqDiff, Nat.reduceAdd, Nat.reduceSub, Nat.reduceMul, Nat.reduceLT, Nat.reduceLeDiff, Nat.reduceMod, Nat.reduceDiv, Int.reduceToNat, Int.reduceLT, Int.reduceLE, Bool.not_true, Bool.not_false, reduceIte, Int.reduceEq, Int.reduceBEq, Int.reduceBNe, Int.reduceGT, Int.reduceGE, Int.reduceNeg, Int.reduceAdd, Int.reduceSub, Nat.reduceBEq, decide_true, decide_false, undef, beq_self_eq_true, bne_self_eq_false, Bool.and_true, Bool.true_and, Bool.and_false, Bool.false_and, Bool.or_true, Bool.true_or, Bool.or_false, Bool.false_or]
  cases h1 : decide (0 ≤ lo)
  · simp only [go_sem, Nat.reduceEqDiff, Nat.reduceAdd, Nat.reduceSub, Nat.reduceMul, Nat.reduceLT, Nat.reduceLeDiff, Nat.reduceMod, Nat.reduceDiv, Int.reduceToNat, Int.reduceLT, Int.reduceLE, Bool.not_true, Bool.not_false, reduceIte, Int.reduceEq, Int.reduceBEq, Int.reduceBNe, Int.reduceGT, Int.reduceGE, Int.reduceNeg, Int.reduceAdd, Int.reduceSub, Nat.reduceBEq, decide_true, decide_false, undef, beq_self_eq_true, bne_self_eq_false, Bool.and_true, Bool.true_and, Bool.and_false, Bool.false_and, Bool.or_true, Bool.true_or, Bool.or_false, Bool.false_or, undef, h1]
    exact finL_ret [] ⟨rfl, rfl, rfl, rfl, _, rfl, res_mk rfl⟩
  simp only [go_sem, Nat.reduceEqDiff, Nat.reduceAdd, Nat.reduceSub, Nat.reduceMul, Nat.reduceLT, Nat.reduceLeDiff, Nat.reduceMod, Nat.reduceDiv, Int.reduceToNat, Int.reduceLT, Int.reduceLE, Bool.not_true, Bool.not_false, reduceIte, Int.reduceEq, Int.reduceBEq, Int.reduceBNe, Int.reduceGT, Int.reduceGE, Int.reduceNeg, Int.reduceAdd, Int.reduceSub, Nat.reduceBEq, decide_true, decide_false, undef, beq_self_eq_true, bne_self_eq_false, Bool.and_true, Bool.true_and, Bool.and_false, Bool.false_and, Bool.or_true, Bool.true_or, Bool.or_false, Bool.false_or, undef, h1]
  cases h2 : decide (lo ≤ hi)
  · simp only [go_sem, Nat.reduceEqDiff, Nat.reduceAdd, Nat.reduceSub, Nat.reduceMul, Nat.reduceLT, Nat.reduceLeDiff, Nat.reduceMod, Nat.reduceDiv, Int.reduceToNat, Int.reduceLT, Int.reduceLE, Bool.not_true, Bool.not_false, reduceIte, Int.reduceEq, Int.reduceBEq, Int.reduceBNe, Int.reduceGT, Int.reduceGE, Int.reduceNeg, Int.reduceAdd, Int.reduceSub, Nat.reduceBEq, decide_true, decide_false, undef, beq_self_eq_true, bne_self_eq_false, Bool.and_true, Bool.true_and, Bool.and_false, Bool.false_and, Bool.or_true, Bool.true_or, Bool.or_false, Bool.false_or, undef, h1, h2]
    exact finL_ret [] ⟨rfl, rfl, rfl, rfl, _, rfl, res_mk rfl⟩
  have h1' := of_decide_eq_true h1
  have h2' := of_decide_eq_true h2
  simp only [go_sem, Nat.reduceEqDiff, Nat.reduceAdd, Nat.reduceSub, Nat.reduceMul, Nat.reduceLT, Nat.reduceLeDiff, Nat.reduceMod, Nat.reduceDiv, Int.reduceToNat, Int.reduceLT, Int.reduceLE, Bool.not_true, Bool.not_false, reduceIte, Int.reduceEq, Int.reduceBEq, Int.reduceBNe, Int.reduceGT, Int.reduceGE, Int.reduceNeg, Int.reduceAdd, Int.reduceSub, Nat.reduceBEq, decide_true, decide_false, undef, beq_self_eq_true, bne_self_eq_false, Bool.and_true, Bool.true_and, Bool.and_false, Bool.false_and, Bool.or_true, Bool.true_or, Bool.or_false, Bool.false_or, undef, h1, h2]
  cases h3 : decide (hi ≤ high)
  · simp only [go_sem, Nat.reduceEqDiff, Nat.reduceAdd, Nat.reduceSub, Nat.reduceMul, Nat.reduceLT, Nat.reduceLeDiff, Nat.reduceMod, Nat.reduceDiv, Int.reduceToNat, Int.reduceLT, Int.reduceLE, Bool.not_true, Bool.not_false, reduceIte, Int.reduceEq, Int.reduceBEq, Int.reduceBNe, Int.reduceGT, Int.reduceGE, Int.reduceNeg, Int.reduceAdd, Int.reduceSub, Nat.reduceBEq, decide_true, decide_false, undef, beq_self_eq_true, bne_self_eq_false, Bool.and_true, Bool.true_and, Bool.and_false, Bool.false_and, Bool.or_true, Bool.true_or, Bool.or_false, Bool.false_or, undef, h1, h2, h3]
    exact finL_ret [] ⟨rfl, rfl, rfl, rfl, _, rfl, res_mk rfl⟩
  · have h3' := of_decide_eq_true h3
    have hw : IntKind.i64.wrap (hi - lo) = hi - lo := wrap_id (by omega) (by omega)
    simp only [go_sem, Nat.reduceEqDiff, Nat.reduceAdd, Nat.reduceSub, Nat.reduceMul, Nat.reduceLT, Nat.reduceLeDiff, Nat.reduceMod, Nat.reduceDiv, Int.reduceToNat, Int.reduceLT, Int.reduceLE, Bool.not_true, Bool.not_false, reduceIte, Int.reduceEq, Int.reduceBEq, Int.reduceBNe, Int.reduceGT, Int.reduceGE, Int.reduceNeg, Int.reduceAdd, Int.reduceSub, Nat.reduceBEq, decide_true, decide_false, undef, beq_self_eq_true, bne_self_eq_false, Bool.and_true, Bool.true_and, Bool.and_false, Bool.false_and, Bool.or_true, Bool.true_or, Bool.or_false, Bool.false_or, undef, h1, h2, h3, hw]
    exact finL_ret [] ⟨rfl, rfl, rfl, rfl, _, rfl, res_mk rfl⟩

theorem not_ok {s : Su} (h : ¬ s.OK) : s.ok = false := by rw [← Bool.not_eq_true, s.ok_iff]; exact h
def RsMid (s : Su) (st : St) : Prop := lk st.env 1 = .ptr 0 0 ∧ st.σ = [.cells ((su5 s).map .t)] ∧ st.df = [] ∧ st.k = 0
set_option maxRecDepth 8000 in
set_option maxHeartbeats 8000000 in
theorem rsurf_ok (s : Su) (hl : Lens s) : ACall Tryd.prog 29 [.t (.agg (su5 s))] [] (ret (vb s.ok)) := by
  refine ACall.walk k29 ?_
  unfold c29
  refine awpL_chop 2 (c1 := ?a1) (c2 := ?a2) (fun st => ((1 ≤ s.rows ∧ s.rows ≤ 6) ∧ (0 ≤ s.step ∧ s.step ≤ 4) ∧ s.water.length ≤ 8 ∧ s.waves.length = s.water.length ∧ s.huts.length ≤ 5) ∧ RsMid s st) ?hc ?_ ?_
  case hc => simp only [chop]; rfl
  · unfold su5
    simp only [go_sem, Nat.reduceEqDiff, Nat.reduceAdd, Nat.reduceSub, Nat.reduceMul, Nat.reduceLT, Nat.reduceLeDiff, Nat.reduceMod, Nat.reduceDiv, Int.reduceToNat, Int.reduceLT, Int.reduceLE, Bool.not_true, Bool.not_false, reduceIte, Int.reduceEq, Int.reduceBEq, Int.reduceBNe, Int.reduceGT, Int.reduceGE, Int.reduceNeg, Int.reduceAdd, Int.reduceSub, Nat.reduceBEq, decide_true, decide_false, undef, beq_self_eq_true, bne_self_eq_false, Bool.and_true, Bool.true_and, Bool.and_false, Bool.false_and, Bool.or_true, Bool.true_or, Bool.or_false, Bool.false_or, List.length_map]
    refine ACallL.quiet1 (rin_ok _ _ _) rfl rfl rfl ?_
    cases h1 : wI s.rows 1 6
    · simp only [go_sem, Nat.reduceEqDiff, Nat.reduceAdd, Nat.reduceSub, Nat.reduceMul, Nat.reduceLT, Nat.reduceLeDiff, Nat.reduceMod, Nat.reduceDiv, Int.reduceToNat, Int.reduceLT, Int.reduceLE, Bool.not_true, Bool.not_false, reduceIte, Int.reduceEq, Int.reduceBEq, Int.reduceBNe, Int.reduceGT, Int.reduceGE, Int.reduceNeg, Int.reduceAdd, Int.reduceSub, Nat.reduceBEq, decide_true, decide_false, undef, beq_self_eq_true, bne_self_eq_false, Bool.and_true, Bool.true_and, Bool.and_false, Bool.false_and, Bool.or_true, Bool.true_or, Bool.or_false, Bool.false_or, undef, h1]
      exact finL_ret [] ⟨rfl, rfl, rfl, rfl, _, rfl, res_mk (by rw [not_ok fun k => by have := k.rows; simp [wI] at h1; omega]; rfl)⟩
    simp only [go_sem, Nat.reduceEqDiff, Nat.reduceAdd, Nat.reduceSub, Nat.reduceMul, Nat.reduceLT, Nat.reduceLeDiff, Nat.reduceMod, Nat.reduceDiv, Int.reduceToNat, Int.reduceLT, Int.reduceLE, Bool.not_true, Bool.not_false, reduceIte, Int.reduceEq, Int.reduceBEq, Int.reduceBNe, Int.reduceGT, Int.reduceGE, Int.reduceNeg, Int.reduceAdd, Int.reduceSub, Nat.reduceBEq, decide_true, decide_false, undef, beq_self_eq_true, bne_self_eq_false, Bool.and_true, Bool.true_and, Bool.and_false, Bool.false_and, Bool.or_true, Bool.true_or, Bool.or_false, Bool.false_or, undef, h1]
    refine ACallL.quiet1 (rin_ok _ _ _) rfl rfl rfl ?_
    cases h2 : wI s.step 0 4
    · simp only [go_sem, Nat.reduceEqDiff, Nat.reduceAdd, Nat.reduceSub, Nat.reduceMul, Nat.reduceLT, Nat.reduceLeDiff, Nat.reduceMod, Nat.reduceDiv, Int.reduceToNat, Int.reduceLT, Int.reduceLE, Bool.not_true, Bool.not_false, reduceIte, Int.reduceEq, Int.reduceBEq, Int.reduceBNe, Int.reduceGT, Int.reduceGE, Int.reduceNeg, Int.reduceAdd, Int.reduceSub, Nat.reduceBEq, decide_true, decide_false, undef, beq_self_eq_true, bne_self_eq_false, Bool.and_true, Bool.true_and, Bool.and_false, Bool.false_and, Bool.or_true, Bool.true_or, Bool.or_false, Bool.false_or, undef, h2]
      exact finL_ret [] ⟨rfl, rfl, rfl, rfl, _, rfl, res_mk (by rw [not_ok fun k => by have := k.step; simp [wI] at h2; omega]; rfl)⟩
    simp only [go_sem, Nat.reduceEqDiff, Nat.reduceAdd, Nat.reduceSub, Nat.reduceMul, Nat.reduceLT, Nat.reduceLeDiff, Nat.reduceMod, Nat.reduceDiv, Int.reduceToNat, Int.reduceLT, Int.reduceLE, Bool.not_true, Bool.not_false, reduceIte, Int.reduceEq, Int.reduceBEq, Int.reduceBNe, Int.reduceGT, Int.reduceGE, Int.reduceNeg, Int.reduceAdd, Int.reduceSub, Nat.reduceBEq, decide_true, decide_false, undef, beq_self_eq_true, bne_self_eq_false, Bool.and_true, Bool.true_and, Bool.and_false, Bool.false_and, Bool.or_true, Bool.true_or, Bool.or_false, Bool.false_or, undef, h2, List.length_map]
    cases h3 : decide ((s.water.length : Int) > 8)
    rotate_left
    · simp only [go_sem, Nat.reduceEqDiff, Nat.reduceAdd, Nat.reduceSub, Nat.reduceMul, Nat.reduceLT, Nat.reduceLeDiff, Nat.reduceMod, Nat.reduceDiv, Int.reduceToNat, Int.reduceLT, Int.reduceLE, Bool.not_true, Bool.not_false, reduceIte, Int.reduceEq, Int.reduceBEq, Int.reduceBNe, Int.reduceGT, Int.reduceGE, Int.reduceNeg, Int.reduceAdd, Int.reduceSub, Nat.reduceBEq, decide_true, decide_false, undef, beq_self_eq_true, bne_self_eq_false, Bool.and_true, Bool.true_and, Bool.and_false, Bool.false_and, Bool.or_true, Bool.true_or, Bool.or_false, Bool.false_or, undef, h3, List.length_map]
      exact finL_ret [] ⟨rfl, rfl, rfl, rfl, _, rfl, res_mk (by rw [not_ok fun k => by have := k.nw; have := of_decide_eq_true h3; omega]; rfl)⟩
    simp only [go_sem, Nat.reduceEqDiff, Nat.reduceAdd, Nat.reduceSub, Nat.reduceMul, Nat.reduceLT, Nat.reduceLeDiff, Nat.reduceMod, Nat.reduceDiv, Int.reduceToNat, Int.reduceLT, Int.reduceLE, Bool.not_true, Bool.not_false, reduceIte, Int.reduceEq, Int.reduceBEq, Int.reduceBNe, Int.reduceGT, Int.reduceGE, Int.reduceNeg, Int.reduceAdd, Int.reduceSub, Nat.reduceBEq, decide_true, decide_false, undef, beq_self_eq_true, bne_self_eq_false, Bool.and_true, Bool.true_and, Bool.and_false, Bool.false_and, Bool.or_true, Bool.true_or, Bool.or_false, Bool.false_or, undef, h3, List.length_map]
    cases h4 : ((s.waves.length : Int) != s.water.length)
    rotate_left
    · simp only [go_sem, Nat.reduceEqDiff, Nat.reduceAdd, Nat.reduceSub, Nat.reduceMul, Nat.reduceLT, Nat.reduceLeDiff, Nat.reduceMod, Nat.reduceDiv, Int.reduceToNat, Int.reduceLT, Int.reduceLE, Bool.not_true, Bool.not_false, reduceIte, Int.reduceEq, Int.reduceBEq, Int.reduceBNe, Int.reduceGT, Int.reduceGE, Int.reduceNeg, Int.reduceAdd, Int.reduceSub, Nat.reduceBEq, decide_true, decide_false, undef, beq_self_eq_true, bne_self_eq_false, Bool.and_true, Bool.true_and, Bool.and_false, Bool.false_and, Bool.or_true, Bool.true_or, Bool.or_false, Bool.false_or, undef, h4, List.length_map]
      exact finL_ret [] ⟨rfl, rfl, rfl, rfl, _, rfl, res_mk (by rw [not_ok fun k => by have := k.nv; rw [this] at h4; simp at h4]; rfl)⟩
    simp only [go_sem, Nat.reduceEqDiff, Nat.reduceAdd, Nat.reduceSub, Nat.reduceMul, Nat.reduceLT, Nat.reduceLeDiff, Nat.reduceMod, Nat.reduceDiv, Int.reduceToNat, Int.reduceLT, Int.reduceLE, Bool.not_true, Bool.not_false, reduceIte, Int.reduceEq, Int.reduceBEq, Int.reduceBNe, Int.reduceGT, Int.reduceGE, Int.reduceNeg, Int.reduceAdd, Int.reduceSub, Nat.reduceBEq, decide_true, decide_false, undef, beq_self_eq_true, bne_self_eq_false, Bool.and_true, Bool.true_and, Bool.and_false, Bool.false_and, Bool.or_true, Bool.true_or, Bool.or_false, Bool.false_or, undef, h4, List.length_map]
    cases h5 : decide ((s.huts.length : Int) > 5)
    rotate_left
    · simp only [go_sem, Nat.reduceEqDiff, Nat.reduceAdd, Nat.reduceSub, Nat.reduceMul, Nat.reduceLT, Nat.reduceLeDiff, Nat.reduceMod, Nat.reduceDiv, Int.reduceToNat, Int.reduceLT, Int.reduceLE, Bool.not_true, Bool.not_false, reduceIte, Int.reduceEq, Int.reduceBEq, Int.reduceBNe, Int.reduceGT, Int.reduceGE, Int.reduceNeg, Int.reduceAdd, Int.reduceSub, Nat.reduceBEq, decide_true, decide_false, undef, beq_self_eq_true, bne_self_eq_false, Bool.and_true, Bool.true_and, Bool.and_false, Bool.false_and, Bool.or_true, Bool.true_or, Bool.or_false, Bool.false_or, undef, h5]
      exact finL_ret [] ⟨rfl, rfl, rfl, rfl, _, rfl, res_mk (by rw [not_ok fun k => by have := k.nh; have := of_decide_eq_true h5; omega]; rfl)⟩
    simp only [go_sem, Nat.reduceEqDiff, Nat.reduceAdd, Nat.reduceSub, Nat.reduceMul, Nat.reduceLT, Nat.reduceLeDiff, Nat.reduceMod, Nat.reduceDiv, Int.reduceToNat, Int.reduceLT, Int.reduceLE, Bool.not_true, Bool.not_false, reduceIte, Int.reduceEq, Int.reduceBEq, Int.reduceBNe, Int.reduceGT, Int.reduceGE, Int.reduceNeg, Int.reduceAdd, Int.reduceSub, Nat.reduceBEq, decide_true, decide_false, undef, beq_self_eq_true, bne_self_eq_false, Bool.and_true, Bool.true_and, Bool.and_false, Bool.false_and, Bool.or_true, Bool.true_or, Bool.or_false, Bool.false_or, undef, h5]
    have g1 : 1 ≤ s.rows ∧ s.rows ≤ 6 := by simpa [wI] using h1
    have g2 : 0 ≤ s.step ∧ s.step ≤ 4 := by simpa [wI] using h2
    have g3 := of_decide_eq_false h3
    have g4 := bne_eq_false_iff_eq.1 h4
    have g5 := of_decide_eq_false h5
    exact ⟨⟨g1, g2, by omega, by omega, by omega⟩, rfl, rfl, rfl, rfl⟩
  rintro ⟨env, σ, df, k⟩ ⟨⟨w1, w2, v3, v4, v5⟩, q1, hσ, hdf, hk⟩
  simp only at q1 hσ hdf hk
  subst hσ hdf hk
  refine awpL_chop 1 (c1 := ?b1) (c2 := ?b2) (fun st => ((∀ x ∈ s.water, Near x 30) ∧ ∀ x ∈ s.waves, Near x 10) ∧ RsMid s st) ?hc2 ?_ ?_
  case hc2 => simp only [chop]; rfl
  · simp only [go_sem, Nat.reduceEqDiff, Nat.reduceAdd, Nat.reduceSub, Nat.reduceMul, Nat.reduceLT, Nat.reduceLeDiff, Nat.reduceMod, Nat.reduceDiv, Int.reduceToNat, Int.reduceLT, Int.reduceLE, Bool.not_true, Bool.not_false, reduceIte, Int.reduceEq, Int.reduceBEq, Int.reduceBNe, Int.reduceGT, Int.reduceGE, Int.reduceNeg, Int.reduceAdd, Int.reduceSub, Nat.reduceBEq, decide_true, decide_false, undef, beq_self_eq_true, bne_self_eq_false, Bool.and_true, Bool.true_and, Bool.and_false, Bool.false_and, Bool.or_true, Bool.true_or, Bool.or_false, Bool.false_or, q1]
    refine awpL_loopK s.water.length (fun j st => ((∀ x ∈ s.water.take j, Near x 30) ∧ ∀ x ∈ s.waves.take j, Near x 10) ∧ st = { env := [(3, .t (vi j)), (1, .ptr 0 0)], σ := [.cells ((su5 s).map .t)] }) ⟨_, Sub.gc [0] [3, 1] rfl rfl, ⟨by simp, by simp⟩, ?_⟩ ?_
    · exact St.gc_mk (by simp only [List.map_cons, List.map_nil, lk, Nat.reduceEqDiff, reduceIte, q1]; rfl) rfl rfl rfl
    · rintro j st hjn ⟨⟨hK1, hK2⟩, rfl⟩
      simp only [su5, go_sem, Nat.reduceEqDiff, Nat.reduceAdd, Nat.reduceSub, Nat.reduceMul, Nat.reduceLT, Nat.reduceLeDiff, Nat.reduceMod, Nat.reduceDiv, Int.reduceToNat, Int.reduceLT, Int.reduceLE, Bool.not_true, Bool.not_false, reduceIte, Int.reduceEq, Int.reduceBEq, Int.reduceBNe, Int.reduceGT, Int.reduceGE, Int.reduceNeg, Int.reduceAdd, Int.reduceSub, Nat.reduceBEq, decide_true, decide_false, undef, beq_self_eq_true, bne_self_eq_false, Bool.and_true, Bool.true_and, Bool.and_false, Bool.false_and, Bool.or_true, Bool.true_or, Bool.or_false, Bool.false_or, undef, List.length_map]
      cases g : decide ((j : Int) < s.water.length)
      · have hje : j = s.water.length := by have := of_decide_eq_false g; omega
        subst hje
        rw [List.take_length] at hK1
        rw [← v4, List.take_length] at hK2
        simp only [go_sem, Nat.reduceEqDiff, Nat.reduceAdd, Nat.reduceSub, Nat.reduceMul, Nat.reduceLT, Nat.reduceLeDiff, Nat.reduceMod, Nat.reduceDiv, Int.reduceToNat, Int.reduceLT, Int.reduceLE, Bool.not_true, Bool.not_false, reduceIte, Int.reduceEq, Int.reduceBEq, Int.reduceBNe, Int.reduceGT, Int.reduceGE, Int.reduceNeg, Int.reduceAdd, Int.reduceSub, Nat.reduceBEq, decide_true, decide_false, undef, beq_self_eq_true, bne_self_eq_false, Bool.and_true, Bool.true_and, Bool.and_false, Bool.false_and, Bool.or_true, Bool.true_or, Bool.or_false, Bool.false_or, undef, g]
        exact ⟨⟨hK1, hK2⟩, rfl, rfl, rfl, rfl⟩
      have hj : j < s.water.length := by have := of_decide_eq_true g; omega
      have hx : s.water[j]? = some s.water[j] := List.getElem?_eq_getElem hj
      have hy : s.waves[j]? = some s.waves[j] := List.getElem?_eq_getElem (by omega)
      have tx : s.water.take (j + 1) = s.water.take j ++ [s.water[j]] := by rw [List.take_add_one, hx]; rfl
      have ty : s.waves.take (j + 1) = s.waves.take j ++ [s.waves[j]] := by rw [List.take_add_one, hy]; rfl
      have mx := List.getElem_mem hj
      have my := List.getElem_mem (show j < s.waves.length by omega)
      have hw : IntKind.i64.wrap ((j : Int) + 1) = ((j + 1 : Nat) : Int) := by rw [wrap_id (by omega) (by omega)]; omega
      generalize s.water[j] = x at *
      generalize s.waves[j] = y at *
      have nx := rspan_ok x 30 (by decide)
      have ny := rspan_ok y 10 (by decide)
      have bad1 : nearB x 30 = false → s.ok = false := fun h => not_ok fun k => by rw [(nearB_iff x 30).2 (k.water x mx)] at h; cases h
      have bad2 : nearB y 10 = false → s.ok = false := fun h => not_ok fun k => by rw [(nearB_iff y 10).2 (k.waves y my)] at h; cases h
      have g1 := (nearB_iff x 30).1
      have g2 := (nearB_iff y 10).1
      obtain ⟨xl, xh⟩ := x
      obtain ⟨yl, yh⟩ := y
      simp only [tSp] at nx ny
      generalize nearB (xl, xh) 30 = b1 at *
      generalize nearB (yl, yh) 10 = b2 at *
      simp only [su5, go_sem, Nat.reduceEqDiff, Nat.reduceAdd, Nat.reduceSub, Nat.reduceMul, Nat.reduceLT, Nat.reduceLeDiff, Nat.reduceMod, Nat.reduceDiv, Int.reduceToNat, Int.reduceLT, Int.reduceLE, Bool.not_true, Bool.not_false, reduceIte, Int.reduceEq, Int.reduceBEq, Int.reduceBNe, Int.reduceGT, Int.reduceGE, Int.reduceNeg, Int.reduceAdd, Int.reduceSub, Nat.reduceBEq, decide_true, decide_false, undef, beq_self_eq_true, bne_self_eq_false, Bool.and_true, Bool.true_and, Bool.and_false, Bool.false_and, Bool.or_true, Bool.true_or, Bool.or_false, Bool.false_or, undef, g, List.length_map, List.getElem?_map, hx, hy, Option.map_some, tSp]
      refine ACallL.quiet1 nx rfl rfl rfl ?_
      cases b1
      · simp only [go_sem, Nat.reduceEqDiff, Nat.reduceAdd, Nat.reduceSub, Nat.reduceMul, Nat.reduceLT, Nat.reduceLeDiff, Nat.reduceMod, Nat.reduceDiv, Int.reduceToNat, Int.reduceLT, Int.reduceLE, Bool.not_true, Bool.not_false, reduceIte, Int.reduceEq, Int.reduceBEq, Int.reduceBNe, Int.reduceGT, Int.reduceGE, Int.reduceNeg, Int.reduceAdd, Int.reduceSub, Nat.reduceBEq, decide_true, decide_false, undef, beq_self_eq_true, bne_self_eq_false, Bool.and_true, Bool.true_and, Bool.and_false, Bool.false_and, Bool.or_true, Bool.true_or, Bool.or_false, Bool.false_or, undef]
        exact finL_ret [] ⟨rfl, rfl, rfl, rfl, _, rfl, res_mk (by rw [bad1 rfl]; rfl)⟩
      simp only [go_sem, Nat.reduceEqDiff, Nat.reduceAdd, Nat.reduceSub, Nat.reduceMul, Nat.reduceLT, Nat.reduceLeDiff, Nat.reduceMod, Nat.reduceDiv, Int.reduceToNat, Int.reduceLT, Int.reduceLE, Bool.not_true, Bool.not_false, reduceIte, Int.reduceEq, Int.reduceBEq, Int.reduceBNe, Int.reduceGT, Int.reduceGE, Int.reduceNeg, Int.reduceAdd, Int.reduceSub, Nat.reduceBEq, decide_true, decide_false, undef, beq_self_eq_true, bne_self_eq_false, Bool.and_true, Bool.true_and, Bool.and_false, Bool.false_and, Bool.or_true, Bool.true_or, Bool.or_false, Bool.false_or, undef, List.length_map, List.getElem?_map, hx, hy, Option.map_some, tSp]
      refine ACallL.quiet1 ny rfl rfl rfl ?_
      cases b2
      · simp only [go_sem, Nat.reduceEqDiff, Nat.reduceAdd, Nat.reduceSub, Nat.reduceMul, Nat.reduceLT, Nat.reduceLeDiff, Nat.reduceMod, Nat.reduceDiv, Int.reduceToNat, Int.reduceLT, Int.reduceLE, Bool.not_true, Bool.not_false, reduceIte, Int.reduceEq, Int.reduceBEq, Int.reduceBNe, Int.reduceGT, Int.reduceGE, Int.reduceNeg, Int.reduceAdd, Int.reduceSub, Nat.reduceBEq, decide_true, decide_false, undef, beq_self_eq_true, bne_self_eq_false, Bool.and_true, Bool.true_and, Bool.and_false, Bool.false_and, Bool.or_true, Bool.true_or, Bool.or_false, Bool.false_or, undef]
        exact finL_ret [] ⟨rfl, rfl, rfl, rfl, _, rfl, res_mk (by rw [bad2 rfl]; rfl)⟩
      simp only [go_sem, Nat.reduceEqDiff, Nat.reduceAdd, Nat.reduceSub, Nat.reduceMul, Nat.reduceLT, Nat.reduceLeDiff, Nat.reduceMod, Nat.reduceDiv, Int.reduceToNat, Int.reduceLT, Int.reduceLE, Bool.not_true, Bool.not_false, reduceIte, Int.reduceEq, Int.reduceBEq, Int.reduceBNe, Int.reduceGT, Int.reduceGE, Int.reduceNeg, Int.reduceAdd, Int.reduceSub, Nat.reduceBEq, decide_true, decide_false, undef, beq_self_eq_true, bne_self_eq_false, Bool.and_true, Bool.true_and, Bool.and_false, Bool.false_and, Bool.or_true, Bool.true_or, Bool.or_false, Bool.false_or, undef, hw]
      refine ⟨hj, _, Sub.gc [0] [3, 1] rfl rfl, ⟨?_, ?_⟩, rfl⟩
      · rw [tx]; intro z hz
        rcases List.mem_append.1 hz with h | h
        · exact hK1 z h
        · simp at h; subst h; exact g1 rfl
      · rw [ty]; intro z hz
        rcases List.mem_append.1 hz with h | h
        · exact hK2 z h
        · simp at h; subst h; exact g2 rfl
  rintro ⟨env, σ, df, k⟩ ⟨⟨v6, v7⟩, q1, hσ, hdf, hk⟩
  simp only at q1 hσ hdf hk
  subst hσ hdf hk
  simp only [go_sem, Nat.reduceEqDiff, Nat.reduceAdd, Nat.reduceSub, Nat.reduceMul, Nat.reduceLT, Nat.reduceLeDiff, Nat.reduceMod, Nat.reduceDiv, Int.reduceToNat, Int.reduceLT, Int.reduceLE, Bool.not_true, Bool.not_false, reduceIte, Int.reduceEq, Int.reduceBEq, Int.reduceBNe, Int.reduceGT, Int.reduceGE, Int.reduceNeg, Int.reduceAdd, Int.reduceSub, Nat.reduceBEq, decide_true, decide_false, undef, beq_self_eq_true, bne_self_eq_false, Bool.and_true, Bool.true_and, Bool.and_false, Bool.false_and, Bool.or_true, Bool.true_or, Bool.or_false, Bool.false_or, q1]
  refine awpL_loopK s.huts.length (fun j st => (∀ h ∈ s.huts.take j, h.OK s.rows) ∧ st = { env := [(4, .t (vi j)), (1, .ptr 0 0)], σ := [.cells ((su5 s).map .t)] }) ⟨_, Sub.gc [0] [4, 1] rfl rfl, by simp, ?_⟩ ?_
  · exact St.gc_mk (by simp only [List.map_cons, List.map_nil, lk, Nat.reduceEqDiff, reduceIte, q1]; rfl) rfl rfl rfl
  · rintro j st hjn ⟨hK, rfl⟩
    simp only [su5, go_sem, Nat.reduceEqDiff, Nat.reduceAdd, Nat.reduceSub, Nat.reduceMul, Nat.reduceLT, Nat.reduceLeDiff, Nat.reduceMod, Nat.reduceDiv, Int.reduceToNat, Int.reduceLT, Int.reduceLE, Bool.not_true, Bool.not_false, reduceIte, Int.reduceEq, Int.reduceBEq, Int.reduceBNe, Int.reduceGT, Int.reduceGE, Int.reduceNeg, Int.reduceAdd, Int.reduceSub, Nat.reduceBEq, decide_true, decide_false, undef, beq_self_eq_true, bne_self_eq_false, Bool.and_true, Bool.true_and, Bool.and_false, Bool.false_and, Bool.or_true, Bool.true_or, Bool.or_false, Bool.false_or, undef, List.length_map]
    cases g : decide ((j : Int) < s.huts.length)
    · have hje : j = s.huts.length := by have := of_decide_eq_false g; omega
      subst hje
      rw [List.take_length] at hK
      have hok : s.ok = true := (s.ok_iff).2 ⟨w1, w2, v3, v4, v5, v6, v7, hK⟩
      simp only [go_sem, Nat.reduceEqDiff, Nat.reduceAdd, Nat.reduceSub, Nat.reduceMul, Nat.reduceLT, Nat.reduceLeDiff, Nat.reduceMod, Nat.reduceDiv, Int.reduceToNat, Int.reduceLT, Int.reduceLE, Bool.not_true, Bool.not_false, reduceIte, Int.reduceEq, Int.reduceBEq, Int.reduceBNe, Int.reduceGT, Int.reduceGE, Int.reduceNeg, Int.reduceAdd, Int.reduceSub, Nat.reduceBEq, decide_true, decide_false, undef, beq_self_eq_true, bne_self_eq_false, Bool.and_true, Bool.true_and, Bool.and_false, Bool.false_and, Bool.or_true, Bool.true_or, Bool.or_false, Bool.false_or, undef, g]
      exact finL_ret [] ⟨rfl, rfl, rfl, rfl, _, rfl, res_mk (by rw [hok]; rfl)⟩
    have hj : j < s.huts.length := by have := of_decide_eq_true g; omega
    have hx : s.huts[j]? = some s.huts[j] := List.getElem?_eq_getElem hj
    have tx : s.huts.take (j + 1) = s.huts.take j ++ [s.huts[j]] := by rw [List.take_add_one, hx]; rfl
    have mx := List.getElem_mem hj
    have hw : IntKind.i64.wrap ((j : Int) + 1) = ((j + 1 : Nat) : Int) := by rw [wrap_id (by omega) (by omega)]; omega
    have hr : IntKind.i64.wrap (s.rows - 1) = s.rows - 1 := wrap_id (by omega) (by omega)
    generalize s.huts[j] = x at *
    have bad : ¬ x.OK s.rows → s.ok = false := fun h => not_ok fun k => h (k.huts x mx)
    obtain ⟨f, b, r⟩ := x
    simp only [su5, go_sem, Nat.reduceEqDiff, Nat.reduceAdd, Nat.reduceSub, Nat.reduceMul, Nat.reduceLT, Nat.reduceLeDiff, Nat.reduceMod, Nat.reduceDiv, Int.reduceToNat, Int.reduceLT, Int.reduceLE, Bool.not_true, Bool.not_false, reduceIte, Int.reduceEq, Int.reduceBEq, Int.reduceBNe, Int.reduceGT, Int.reduceGE, Int.reduceNeg, Int.reduceAdd, Int.reduceSub, Nat.reduceBEq, decide_true, decide_false, undef, beq_self_eq_true, bne_self_eq_false, Bool.and_true, Bool.true_and, Bool.and_false, Bool.false_and, Bool.or_true, Bool.true_or, Bool.or_false, Bool.false_or, undef, g, List.length_map, List.getElem?_map, hx, Option.map_some, tHu]
    refine ACallL.quiet1 (rin_ok _ _ _) rfl rfl rfl ?_
    cases h1 : wI f 0 40
    · simp only [go_sem, Nat.reduceEqDiff, Nat.reduceAdd, Nat.reduceSub, Nat.reduceMul, Nat.reduceLT, Nat.reduceLeDiff, Nat.reduceMod, Nat.reduceDiv, Int.reduceToNat, Int.reduceLT, Int.reduceLE, Bool.not_true, Bool.not_false, reduceIte, Int.reduceEq, Int.reduceBEq, Int.reduceBNe, Int.reduceGT, Int.reduceGE, Int.reduceNeg, Int.reduceAdd, Int.reduceSub, Nat.reduceBEq, decide_true, decide_false, undef, beq_self_eq_true, bne_self_eq_false, Bool.and_true, Bool.true_and, Bool.and_false, Bool.false_and, Bool.or_true, Bool.true_or, Bool.or_false, Bool.false_or, undef, h1]
      exact finL_ret [] ⟨rfl, rfl, rfl, rfl, _, rfl, res_mk (by rw [bad fun k => by simp [Hu.OK] at k; simp [wI] at h1; omega]; rfl)⟩
    simp only [go_sem, Nat.reduceEqDiff, Nat.reduceAdd, Nat.reduceSub, Nat.reduceMul, Nat.reduceLT, Nat.reduceLeDiff, Nat.reduceMod, Nat.reduceDiv, Int.reduceToNat, Int.reduceLT, Int.reduceLE, Bool.not_true, Bool.not_false, reduceIte, Int.reduceEq, Int.reduceBEq, Int.reduceBNe, Int.reduceGT, Int.reduceGE, Int.reduceNeg, Int.reduceAdd, Int.reduceSub, Nat.reduceBEq, decide_true, decide_false, undef, beq_self_eq_true, bne_self_eq_false, Bool.and_true, Bool.true_and, Bool.and_false, Bool.false_and, Bool.or_true, Bool.true_or, Bool.or_false, Bool.false_or, undef, h1]
    refine ACallL.quiet1 (rin_ok _ _ _) rfl rfl rfl ?_
    cases h2 : wI b 0 10
    · simp only [go_sem, Nat.reduceEqDiff, Nat.reduceAdd, Nat.reduceSub, Nat.reduceMul, Nat.reduceLT, Nat.reduceLeDiff, Nat.reduceMod, Nat.reduceDiv, Int.reduceToNat, Int.reduceLT, Int.reduceLE, Bool.not_true, Bool.not_false, reduceIte, Int.reduceEq, Int.reduceBEq, Int.reduceBNe, Int.reduceGT, Int.reduceGE, Int.reduceNeg, Int.reduceAdd, Int.reduceSub, Nat.reduceBEq, decide_true, decide_false, undef, beq_self_eq_true, bne_self_eq_false, Bool.and_true, Bool.true_and, Bool.and_false, Bool.false_and, Bool.or_true, Bool.true_or, Bool.or_false, Bool.false_or, undef, h2]
      exact finL_ret [] ⟨rfl, rfl, rfl, rfl, _, rfl, res_mk (by rw [bad fun k => by simp [Hu.OK] at k; simp [wI] at h2; omega]; rfl)⟩
    simp only [go_sem, Nat.reduceEqDiff, Nat.reduceAdd, Nat.reduceSub, Nat.reduceMul, Nat.reduceLT, Nat.reduceLeDiff, Nat.reduceMod, Nat.reduceDiv, Int.reduceToNat, Int.reduceLT, Int.reduceLE, Bool.not_true, Bool.not_false, reduceIte, Int.reduceEq, Int.reduceBEq, Int.reduceBNe, Int.reduceGT, Int.reduceGE, Int.reduceNeg, Int.reduceAdd, Int.reduceSub, Nat.reduceBEq, decide_true, decide_false, undef, beq_self_eq_true, bne_self_eq_false, Bool.and_true, Bool.true_and, Bool.and_false, Bool.false_and, Bool.or_true, Bool.true_or, Bool.or_false, Bool.false_or, undef, h2, hr]
    refine ACallL.quiet1 (rin_ok _ _ _) rfl rfl rfl ?_
    cases h3 : wI r 0 (s.rows - 1)
    · simp only [go_sem, Nat.reduceEqDiff, Nat.reduceAdd, Nat.reduceSub, Nat.reduceMul, Nat.reduceLT, Nat.reduceLeDiff, Nat.reduceMod, Nat.reduceDiv, Int.reduceToNat, Int.reduceLT, Int.reduceLE, Bool.not_true, Bool.not_false, reduceIte, Int.reduceEq, Int.reduceBEq, Int.reduceBNe, Int.reduceGT, Int.reduceGE, Int.reduceNeg, Int.reduceAdd, Int.reduceSub, Nat.reduceBEq, decide_true, decide_false, undef, beq_self_eq_true, bne_self_eq_false, Bool.and_true, Bool.true_and, Bool.and_false, Bool.false_and, Bool.or_true, Bool.true_or, Bool.or_false, Bool.false_or, undef, h3]
      exact finL_ret [] ⟨rfl, rfl, rfl, rfl, _, rfl, res_mk (by rw [bad fun k => by simp [Hu.OK] at k; simp [wI] at h3; omega]; rfl)⟩
    simp only [go_sem, Nat.reduceEqDiff, Nat.reduceAdd, Nat.reduceSub, Nat.reduceMul, Nat.reduceLT, Nat.reduceLeDiff, Nat.reduceMod, Nat.reduceDiv, Int.reduceToNat, Int.reduceLT, Int.reduceLE, Bool.not_true, Bool.not_false, reduceIte, Int.reduceEq, Int.reduceBEq, Int.reduceBNe, Int.reduceGT, Int.reduceGE, Int.reduceNeg, Int.reduceAdd, Int.reduceSub, Nat.reduceBEq, decide_true, decide_false, undef, beq_self_eq_true, bne_self_eq_false, Bool.and_true, Bool.true_and, Bool.and_false, Bool.false_and, Bool.or_true, Bool.true_or, Bool.or_false, Bool.false_or, undef, h3, hw]
    refine ⟨hj, _, Sub.gc [0] [4, 1] rfl rfl, ?_, rfl⟩
    rw [tx]; intro z hz
    rcases List.mem_append.1 hz with h | h
    · exact hK z h
    · simp at h; subst h; simp [wI] at h1 h2 h3; simp [Hu.OK]; omega

def fineB (s : Su) : Bool := !farB s && s.ok
theorem fine_ok (s : Su) (hl : Lens s) : ACall Tryd.prog 33 [.t (.agg (su5 s))] [] (ret (vb (fineB s))) := by
  refine ACall.walk k33 ?_
  have h29 := rsurf_ok s hl
  have h13 := far_ok s
  unfold c33 su5
  simp only [su5] at h29 h13
  simp only [go_sem, Nat.reduceEqDiff, Nat.reduceAdd, Nat.reduceSub, Nat.reduceMul, Nat.reduceLT, Nat.reduceLeDiff, Nat.reduceMod, Nat.reduceDiv, Int.reduceToNat, Int.reduceLT, Int.reduceLE, Bool.not_true, Bool.not_false, reduceIte, Int.reduceEq, Int.reduceBEq, Int.reduceBNe, Int.reduceGT, Int.reduceGE, Int.reduceNeg, Int.reduceAdd, Int.reduceSub, Nat.reduceBEq, decide_true, decide_false, undef, beq_self_eq_true, bne_self_eq_false, Bool.and_true, Bool.true_and, Bool.and_false, Bool.false_and, Bool.or_true, Bool.true_or, Bool.or_false, Bool.false_or]
  refine ACallL.quiet1 h13 rfl rfl rfl ?_
  cases hF : farB s
  · simp only [go_sem, Nat.reduceEqDiff, Nat.reduceAdd, Nat.reduceSub, Nat.reduceMul, Nat.reduceLT, Nat.reduceLeDiff, Nat.reduceMod, Nat.reduceDiv, Int.reduceToNat, Int.reduceLT, Int.reduceLE, Bool.not_true, Bool.not_false, reduceIte, Int.reduceEq, Int.reduceBEq, Int.reduceBNe, Int.reduceGT, Int.reduceGE, Int.reduceNeg, Int.reduceAdd, Int.reduceSub, Nat.reduceBEq, decide_true, decide_false, undef, beq_self_eq_true, bne_self_eq_false, Bool.and_true, Bool.true_and, Bool.and_false, Bool.false_and, Bool.or_true, Bool.true_or, Bool.or_false, Bool.false_or, undef]
    refine ACallL.quiet1 h29 rfl rfl rfl ?_
    simp only [go_sem, Nat.reduceEqDiff, Nat.reduceAdd, Nat.reduceSub, Nat.reduceMul, Nat.reduceLT, Nat.reduceLeDiff, Nat.reduceMod, Nat.reduceDiv, Int.reduceToNat, Int.reduceLT, Int.reduceLE, Bool.not_true, Bool.not_false, reduceIte, Int.reduceEq, Int.reduceBEq, Int.reduceBNe, Int.reduceGT, Int.reduceGE, Int.reduceNeg, Int.reduceAdd, Int.reduceSub, Nat.reduceBEq, decide_true, decide_false, undef, beq_self_eq_true, bne_self_eq_false, Bool.and_true, Bool.true_and, Bool.and_false, Bool.false_and, Bool.or_true, Bool.true_or, Bool.or_false, Bool.false_or, undef]
    exact finL_ret [] ⟨rfl, rfl, rfl, rfl, _, rfl, res_mk (by simp only [fineB, hF]; rfl)⟩
  · simp only [go_sem, Nat.reduceEqDiff, Nat.reduceAdd, Nat.reduceSub, Nat.reduceMul, Nat.reduceLT, Nat.reduceLeDiff, Nat.reduceMod, Nat.reduceDiv, Int.reduceToNat, Int.reduceLT, Int.reduceLE, Bool.not_true, Bool.not_false, reduceIte, Int.reduceEq, Int.reduceBEq, Int.reduceBNe, Int.reduceGT, Int.reduceGE, Int.reduceNeg, Int.reduceAdd, Int.reduceSub, Nat.reduceBEq, decide_true, decide_false, undef, beq_self_eq_true, bne_self_eq_false, Bool.and_true, Bool.true_and, Bool.and_false, Bool.false_and, Bool.or_true, Bool.true_or, Bool.or_false, Bool.false_or, undef]
    exact finL_ret [] ⟨rfl, rfl, rfl, rfl, _, rfl, res_mk (by simp only [fineB, hF]; rfl)⟩
theorem fine_iff {s : Su} (h : fineB s = true) : s.ok = true ∧ s.OK := by
  unfold fineB at h
  rw [Bool.and_eq_true] at h
  exact ⟨h.2, (Su.ok_iff s).1 h.2⟩

abbrev tI (l : List Int) : T := .slice 1 (l.map fun z : Int => vi z)
theorem ints_ok (a b : List Int) (hl : a.length < 9223372036854775808) : ACall Tryd.prog 32 [.t (tI a), .t (tI b)] [] (ret (vb (decide (a = b)))) := by
  refine ACall.walk k32 ?_
  unfold c32
  simp only [go_sem, Nat.reduceEqDiff, Nat.reduceAdd, Nat.reduceSub, Nat.reduceMul, Nat.reduceLT, Nat.reduceLeDiff, Nat.reduceMod, Nat.reduceDiv, Int.reduceToNat, Int.reduceLT, Int.reduceLE, Bool.not_true, Bool.not_false, reduceIte, Int.reduceEq, Int.reduceBEq, Int.reduceBNe, Int.reduceGT, Int.reduceGE, Int.reduceNeg, Int.reduceAdd, Int.reduceSub, Nat.reduceBEq, decide_true, decide_false, undef, beq_self_eq_true, bne_self_eq_false, Bool.and_true, Bool.true_and, Bool.and_false, Bool.false_and, Bool.or_true, Bool.true_or, Bool.or_false, Bool.false_or, List.length_map]
  cases h0 : ((a.length : Int) != b.length)
  rotate_left
  · have : ¬ a = b := fun e => by rw [e] at h0; simp at h0
    simp only [go_sem, Nat.reduceEqDiff, Nat.reduceAdd, Nat.reduceSub, Nat.reduceMul, Nat.reduceLT, Nat.reduceLeDiff, Nat.reduceMod, Nat.reduceDiv, Int.reduceToNat, Int.reduceLT, Int.reduceLE, Bool.not_true, Bool.not_false, reduceIte, Int.reduceEq, Int.reduceBEq, Int.reduceBNe, Int.reduceGT, Int.reduceGE, Int.reduceNeg, Int.reduceAdd, Int.reduceSub, Nat.reduceBEq, decide_true, decide_false, undef, beq_self_eq_true, bne_self_eq_false, Bool.and_true, Bool.true_and, Bool.and_false, Bool.false_and, Bool.or_true, Bool.true_or, Bool.or_false, Bool.false_or, undef, h0]
    exact finL_ret [] ⟨rfl, rfl, rfl, rfl, _, rfl, res_mk (by rw [decide_eq_false this]; rfl)⟩
  have hab : a.length = b.length := by have := bne_eq_false_iff_eq.1 h0; omega
  simp only [go_sem, Nat.reduceEqDiff, Nat.reduceAdd, Nat.reduceSub, Nat.reduceMul, Nat.reduceLT, Nat.reduceLeDiff, Nat.reduceMod, Nat.reduceDiv, Int.reduceToNat, Int.reduceLT, Int.reduceLE, Bool.not_true, Bool.not_false, reduceIte, Int.reduceEq, Int.reduceBEq, Int.reduceBNe, Int.reduceGT, Int.reduceGE, Int.reduceNeg, Int.reduceAdd, Int.reduceSub, Nat.reduceBEq, decide_true, decide_false, undef, beq_self_eq_true, bne_self_eq_false, Bool.and_true, Bool.true_and, Bool.and_false, Bool.false_and, Bool.or_true, Bool.true_or, Bool.or_false, Bool.false_or, undef, h0]
  refine awpL_loopK a.length (fun j st => (∀ i < j, a[i]? = b[i]?) ∧ st = { env := [(5, .t (vi j)), (0, .t (tI a)), (1, .t (tI b))], σ := [] }) ⟨_, Sub.gc [] [5, 0, 1] rfl rfl, by simp, rfl⟩ ?_
  rintro j st hj ⟨he, rfl⟩
  simp only [go_sem, Nat.reduceEqDiff, Nat.reduceAdd, Nat.reduceSub, Nat.reduceMul, Nat.reduceLT, Nat.reduceLeDiff, Nat.reduceMod, Nat.reduceDiv, Int.reduceToNat, Int.reduceLT, Int.reduceLE, Bool.not_true, Bool.not_false, reduceIte, Int.reduceEq, Int.reduceBEq, Int.reduceBNe, Int.reduceGT, Int.reduceGE, Int.reduceNeg, Int.reduceAdd, Int.reduceSub, Nat.reduceBEq, decide_true, decide_false, undef, beq_self_eq_true, bne_self_eq_false, Bool.and_true, Bool.true_and, Bool.and_false, Bool.false_and, Bool.or_true, Bool.true_or, Bool.or_false, Bool.false_or, undef, List.length_map]
  cases g : decide ((j : Int) < a.length)
  · have hje : j = a.length := by have := of_decide_eq_false g; omega
    have : a = b := List.ext_getElem? fun i => by
      by_cases c : i < a.length
      · exact he i (by omega)
      · rw [List.getElem?_eq_none (by omega), List.getElem?_eq_none (by omega)]
    simp only [go_sem, Nat.reduceEqDiff, Nat.reduceAdd, Nat.reduceSub, Nat.reduceMul, Nat.reduceLT, Nat.reduceLeDiff, Nat.reduceMod, Nat.reduceDiv, Int.reduceToNat, Int.reduceLT, Int.reduceLE, Bool.not_true, Bool.not_false, reduceIte, Int.reduceEq, Int.reduceBEq, Int.reduceBNe, Int.reduceGT, Int.reduceGE, Int.reduceNeg, Int.reduceAdd, Int.reduceSub, Nat.reduceBEq, decide_true, decide_false, undef, beq_self_eq_true, bne_self_eq_false, Bool.and_true, Bool.true_and, Bool.and_false, Bool.false_and, Bool.or_true, Bool.true_or, Bool.or_false, Bool.false_or, undef, g]
    exact finL_ret [] ⟨rfl, rfl, rfl, rfl, _, rfl, res_mk (by rw [decide_eq_true this]; rfl)⟩
  have hjl : j < a.length := by have := of_decide_eq_true g; omega
  have hw : IntKind.i64.wrap ((j : Int) + 1) = ((j + 1 : Nat) : Int) := by rw [wrap_id (by omega) (by omega)]; omega
  have hx : a[j]? = some a[j] := List.getElem?_eq_getElem hjl
  have hy : b[j]? = some b[j] := List.getElem?_eq_getElem (by omega)
  generalize a[j] = x at *
  generalize b[j] = y at *
  simp only [go_sem, Nat.reduceEqDiff, Nat.reduceAdd, Nat.reduceSub, Nat.reduceMul, Nat.reduceLT, Nat.reduceLeDiff, Nat.reduceMod, Nat.reduceDiv, Int.reduceToNat, Int.reduceLT, Int.reduceLE, Bool.not_true, Bool.not_false, reduceIte, Int.reduceEq, Int.reduceBEq, Int.reduceBNe, Int.reduceGT, Int.reduceGE, Int.reduceNeg, Int.reduceAdd, Int.reduceSub, Nat.reduceBEq, decide_true, decide_false, undef, beq_self_eq_true, bne_self_eq_false, Bool.and_true, Bool.true_and, Bool.and_false, Bool.false_and, Bool.or_true, Bool.true_or, Bool.or_false, Bool.false_or, undef, g, List.getElem?_map, hx, hy, Option.map_some]
  cases h1 : (x != y)
  · have : x = y := bne_eq_false_iff_eq.1 h1
    simp only [go_sem, Nat.reduceEqDiff, Nat.reduceAdd, Nat.reduceSub, Nat.reduceMul, Nat.reduceLT, Nat.reduceLeDiff, Nat.reduceMod, Nat.reduceDiv, Int.reduceToNat, Int.reduceLT, Int.reduceLE, Bool.not_true, Bool.not_false, reduceIte, Int.reduceEq, Int.reduceBEq, Int.reduceBNe, Int.reduceGT, Int.reduceGE, Int.reduceNeg, Int.reduceAdd, Int.reduceSub, Nat.reduceBEq, decide_true, decide_false, undef, beq_self_eq_true, bne_self_eq_false, Bool.and_true, Bool.true_and, Bool.and_false, Bool.false_and, Bool.or_true, Bool.true_or, Bool.or_false, Bool.false_or, undef, h1, hw]
    refine ⟨hjl, _, Sub.gc [] [5, 0, 1] rfl rfl, fun i hi => ?_, rfl⟩
    by_cases c : i < j
    · exact he i c
    · rw [show i = j by omega, hx, hy, this]
  · have : ¬ a = b := fun e => by rw [e, hy] at hx; cases hx; simp at h1
    simp only [go_sem, Nat.reduceEqDiff, Nat.reduceAdd, Nat.reduceSub, Nat.reduceMul, Nat.reduceLT, Nat.reduceLeDiff, Nat.reduceMod, Nat.reduceDiv, Int.reduceToNat, Int.reduceLT, Int.reduceLE, Bool.not_true, Bool.not_false, reduceIte, Int.reduceEq, Int.reduceBEq, Int.reduceBNe, Int.reduceGT, Int.reduceGE, Int.reduceNeg, Int.reduceAdd, Int.reduceSub, Nat.reduceBEq, decide_true, decide_false, undef, beq_self_eq_true, bne_self_eq_false, Bool.and_true, Bool.true_and, Bool.and_false, Bool.false_and, Bool.or_true, Bool.true_or, Bool.or_false, Bool.false_or, undef, h1]
    exact finL_ret [] ⟨rfl, rfl, rfl, rfl, _, rfl, res_mk (by rw [decide_eq_false this]; rfl)⟩
end Go.Proofs.YtmahocdmkpigjaaDoor

/- The document's example holds. -/
namespace Go.Proofs.YtmahocdmkpigjaaDoor
open Go Go.Ab

theorem smp_OK : smp.OK := (Su.ok_iff smp).1 (by decide +kernel)
theorem smp_dep : deepI smp.step 6 1 = 4 ∧ deepI smp.step 7 1 = 5 := by decide +kernel
theorem smp_rows : (logS smp ⟨4, 1, 1⟩ (1 + 1) / 2 : Nat) = 3 ∧ (logS smp ⟨4, 1, 1⟩ (1 + 1)).testBit 0 = false := by decide +kernel
theorem smp_sure : sureM smp ⟨4, 1, 1⟩ = 4 := by decide +kernel
theorem smp_can : canM smp ⟨4, 1, 1⟩ = 14 := by decide +kernel
theorem smp_lost : lostN (logS smp ⟨6, 2, 0⟩ smp.water.length) = 1 := by decide +kernel
theorem smp_before : specBefore smp ⟨6, 2, 0⟩ = (1, 0) := by decide +kernel
theorem smp_brake : leastN (holdsB smp ⟨6, 2, 0⟩) 10 = 3 := by decide +kernel
theorem smp_floor : leastN (restsF smp ⟨4, 1, 1⟩) 40 = 8 := by decide +kernel
theorem smp_save : saveF smp 1 = some ([-1, 0, -1], 1) := by decide +kernel
theorem toKey2 (a b : Int) : toKey (some [some .i64, some .i64], none) (.t (.agg [vi a, vi b])) = some [a, b] := by
  simp [toKey, cellKeys, cellKey]
theorem kEq2 (a b c d : Int) : kEq [some .i64, some .i64] [a, b] [c, d] = ((a == c) && (b == d)) := by
  simp [kEq, cellEq]

set_option maxRecDepth 8000 in
set_option maxHeartbeats 4000000 in
theorem awake_ok : ACall Tryd.prog 14 [] [] (ret (vb true)) := by
  have hl : Lens smp := by decide
  have h15 := Depth_ok smp smp_OK 2 (6, 7) rfl 1 (by decide)
  have h17 := Rows_ok smp smp_OK 1 ⟨4, 1, 1⟩ rfl 1 (by decide)
  have h19 := Floats_ok smp smp_OK 1 ⟨4, 1, 1⟩ rfl
  have h21 := Lost_ok smp smp_OK 0 ⟨6, 2, 0⟩ rfl
  have h23 := Before_ok smp smp_OK 0 ⟨6, 2, 0⟩ rfl
  have h25 := Brake_ok smp smp_OK 0 ⟨6, 2, 0⟩ rfl
  have h27 := Floor_ok smp smp_OK 1 ⟨4, 1, 1⟩ rfl
  have h30 := Save_ok smp hl 1
  have h32 := ints_ok [-1, 0, -1] [-1, 0, -1] (by decide)
  have hsp : specSave smp 1 = .ret (.tup [.t (tI [-1, 0, -1]), .t (vi 1), .t (vi 0)]) := by
    have h1 : smp.ok = true := (Su.ok_iff smp).2 smp_OK
    have h2 : wI 1 0 5 = true := by decide
    simp only [specSave, h1, h2, smp_save]; rfl
  rw [hsp] at h30
  rw [smp_rows.1, smp_rows.2] at h17
  rw [smp_sure, smp_can] at h19
  rw [smp_lost] at h21
  rw [smp_before] at h23
  rw [smp_brake] at h25
  rw [smp_floor] at h27
  simp only [spanE, oneE, twoE, rowE, tSp] at h15 h17 h19 h21 h23 h25 h27
  have d1 : deepI smp.step 6 ((1 : Nat) : Int) = 4 := smp_dep.1
  have d2 : deepI smp.step 7 ((1 : Nat) : Int) = 5 := smp_dep.2
  rw [d1, d2] at h15
  have hsm : su5 smp = [vi 3, vi 2, .slice 2 [.agg [vi 3, vi 4], .agg [vi 5, vi 5], .agg [vi 6, vi 7], .agg [vi 4, vi 4]], .slice 2 [.agg [vi 1, vi 1], .agg [vi 1, vi 2], .agg [vi 2, vi 3], .agg [vi 0, vi 1]], .slice 3 [.agg [vi 6, vi 2, vi 0], .agg [vi 4, vi 1, vi 1], .agg [vi 9, vi 0, vi 2]]] := rfl
  have hs := sample_ok
  rw [hsm] at h15 h17 h19 h21 h23 h25 h27 h30 hs
  refine ACall.walk k14 ?_
  unfold c14
  simp only [go_sem, Nat.reduceEqDiff, Nat.reduceAdd, Nat.reduceSub, Nat.reduceMul, Nat.reduceLT, Nat.reduceLeDiff, Nat.reduceMod, Nat.reduceDiv, Int.reduceToNat, Int.reduceLT, Int.reduceLE, Bool.not_true, Bool.not_false, reduceIte, Int.reduceEq, Int.reduceBEq, Int.reduceBNe, Int.reduceGT, Int.reduceGE, Int.reduceNeg, Int.reduceAdd, Int.reduceSub, Nat.reduceBEq, decide_true, decide_false, undef, beq_self_eq_true, bne_self_eq_false, Bool.and_true, Bool.true_and, Bool.and_false, Bool.false_and, Bool.or_true, Bool.true_or, Bool.or_false, Bool.false_or]
  refine ACallL.fresh1 hs rfl ?_
  simp only [go_sem, Nat.reduceEqDiff, Nat.reduceAdd, Nat.reduceSub, Nat.reduceMul, Nat.reduceLT, Nat.reduceLeDiff, Nat.reduceMod, Nat.reduceDiv, Int.reduceToNat, Int.reduceLT, Int.reduceLE, Bool.not_true, Bool.not_false, reduceIte, Int.reduceEq, Int.reduceBEq, Int.reduceBNe, Int.reduceGT, Int.reduceGE, Int.reduceNeg, Int.reduceAdd, Int.reduceSub, Nat.reduceBEq, decide_true, decide_false, undef, beq_self_eq_true, bne_self_eq_false, Bool.and_true, Bool.true_and, Bool.and_false, Bool.false_and, Bool.or_true, Bool.true_or, Bool.or_false, Bool.false_or]
  refine ACallL.quiet1 h15 rfl rfl rfl ?_
  simp only [go_sem, Nat.reduceEqDiff, Nat.reduceAdd, Nat.reduceSub, Nat.reduceMul, Nat.reduceLT, Nat.reduceLeDiff, Nat.reduceMod, Nat.reduceDiv, Int.reduceToNat, Int.reduceLT, Int.reduceLE, Bool.not_true, Bool.not_false, reduceIte, Int.reduceEq, Int.reduceBEq, Int.reduceBNe, Int.reduceGT, Int.reduceGE, Int.reduceNeg, Int.reduceAdd, Int.reduceSub, Nat.reduceBEq, decide_true, decide_false, undef, beq_self_eq_true, bne_self_eq_false, Bool.and_true, Bool.true_and, Bool.and_false, Bool.false_and, Bool.or_true, Bool.true_or, Bool.or_false, Bool.false_or]
  refine ACallL.quiet1 h17 rfl rfl rfl ?_
  simp only [go_sem, Nat.reduceEqDiff, Nat.reduceAdd, Nat.reduceSub, Nat.reduceMul, Nat.reduceLT, Nat.reduceLeDiff, Nat.reduceMod, Nat.reduceDiv, Int.reduceToNat, Int.reduceLT, Int.reduceLE, Bool.not_true, Bool.not_false, reduceIte, Int.reduceEq, Int.reduceBEq, Int.reduceBNe, Int.reduceGT, Int.reduceGE, Int.reduceNeg, Int.reduceAdd, Int.reduceSub, Nat.reduceBEq, decide_true, decide_false, undef, beq_self_eq_true, bne_self_eq_false, Bool.and_true, Bool.true_and, Bool.and_false, Bool.false_and, Bool.or_true, Bool.true_or, Bool.or_false, Bool.false_or]
  refine ACallL.quiet1 h19 rfl rfl rfl ?_
  simp only [go_sem, Nat.reduceEqDiff, Nat.reduceAdd, Nat.reduceSub, Nat.reduceMul, Nat.reduceLT, Nat.reduceLeDiff, Nat.reduceMod, Nat.reduceDiv, Int.reduceToNat, Int.reduceLT, Int.reduceLE, Bool.not_true, Bool.not_false, reduceIte, Int.reduceEq, Int.reduceBEq, Int.reduceBNe, Int.reduceGT, Int.reduceGE, Int.reduceNeg, Int.reduceAdd, Int.reduceSub, Nat.reduceBEq, decide_true, decide_false, undef, beq_self_eq_true, bne_self_eq_false, Bool.and_true, Bool.true_and, Bool.and_false, Bool.false_and, Bool.or_true, Bool.true_or, Bool.or_false, Bool.false_or]
  refine ACallL.quiet1 h21 rfl rfl rfl ?_
  simp only [go_sem, Nat.reduceEqDiff, Nat.reduceAdd, Nat.reduceSub, Nat.reduceMul, Nat.reduceLT, Nat.reduceLeDiff, Nat.reduceMod, Nat.reduceDiv, Int.reduceToNat, Int.reduceLT, Int.reduceLE, Bool.not_true, Bool.not_false, reduceIte, Int.reduceEq, Int.reduceBEq, Int.reduceBNe, Int.reduceGT, Int.reduceGE, Int.reduceNeg, Int.reduceAdd, Int.reduceSub, Nat.reduceBEq, decide_true, decide_false, undef, beq_self_eq_true, bne_self_eq_false, Bool.and_true, Bool.true_and, Bool.and_false, Bool.false_and, Bool.or_true, Bool.true_or, Bool.or_false, Bool.false_or]
  refine ACallL.quiet1 h23 rfl rfl rfl ?_
  simp only [go_sem, Nat.reduceEqDiff, Nat.reduceAdd, Nat.reduceSub, Nat.reduceMul, Nat.reduceLT, Nat.reduceLeDiff, Nat.reduceMod, Nat.reduceDiv, Int.reduceToNat, Int.reduceLT, Int.reduceLE, Bool.not_true, Bool.not_false, reduceIte, Int.reduceEq, Int.reduceBEq, Int.reduceBNe, Int.reduceGT, Int.reduceGE, Int.reduceNeg, Int.reduceAdd, Int.reduceSub, Nat.reduceBEq, decide_true, decide_false, undef, beq_self_eq_true, bne_self_eq_false, Bool.and_true, Bool.true_and, Bool.and_false, Bool.false_and, Bool.or_true, Bool.true_or, Bool.or_false, Bool.false_or]
  refine ACallL.quiet1 h25 rfl rfl rfl ?_
  simp only [go_sem, Nat.reduceEqDiff, Nat.reduceAdd, Nat.reduceSub, Nat.reduceMul, Nat.reduceLT, Nat.reduceLeDiff, Nat.reduceMod, Nat.reduceDiv, Int.reduceToNat, Int.reduceLT, Int.reduceLE, Bool.not_true, Bool.not_false, reduceIte, Int.reduceEq, Int.reduceBEq, Int.reduceBNe, Int.reduceGT, Int.reduceGE, Int.reduceNeg, Int.reduceAdd, Int.reduceSub, Nat.reduceBEq, decide_true, decide_false, undef, beq_self_eq_true, bne_self_eq_false, Bool.and_true, Bool.true_and, Bool.and_false, Bool.false_and, Bool.or_true, Bool.true_or, Bool.or_false, Bool.false_or]
  refine ACallL.quiet1 h27 rfl rfl rfl ?_
  simp only [go_sem, Nat.reduceEqDiff, Nat.reduceAdd, Nat.reduceSub, Nat.reduceMul, Nat.reduceLT, Nat.reduceLeDiff, Nat.reduceMod, Nat.reduceDiv, Int.reduceToNat, Int.reduceLT, Int.reduceLE, Bool.not_true, Bool.not_false, reduceIte, Int.reduceEq, Int.reduceBEq, Int.reduceBNe, Int.reduceGT, Int.reduceGE, Int.reduceNeg, Int.reduceAdd, Int.reduceSub, Nat.reduceBEq, decide_true, decide_false, undef, beq_self_eq_true, bne_self_eq_false, Bool.and_true, Bool.true_and, Bool.and_false, Bool.false_and, Bool.or_true, Bool.true_or, Bool.or_false, Bool.false_or]
  refine ACallL.fresh1 h30 rfl ?_
  simp only [go_sem, Nat.reduceEqDiff, Nat.reduceAdd, Nat.reduceSub, Nat.reduceMul, Nat.reduceLT, Nat.reduceLeDiff, Nat.reduceMod, Nat.reduceDiv, Int.reduceToNat, Int.reduceLT, Int.reduceLE, Bool.not_true, Bool.not_false, reduceIte, Int.reduceEq, Int.reduceBEq, Int.reduceBNe, Int.reduceGT, Int.reduceGE, Int.reduceNeg, Int.reduceAdd, Int.reduceSub, Nat.reduceBEq, decide_true, decide_false, undef, beq_self_eq_true, bne_self_eq_false, Bool.and_true, Bool.true_and, Bool.and_false, Bool.false_and, Bool.or_true, Bool.true_or, Bool.or_false, Bool.false_or]
  refine ACallL.quiet1 (span2_ok 4 5) rfl rfl rfl ?_
  simp only [go_sem, Nat.reduceEqDiff, Nat.reduceAdd, Nat.reduceSub, Nat.reduceMul, Nat.reduceLT, Nat.reduceLeDiff, Nat.reduceMod, Nat.reduceDiv, Int.reduceToNat, Int.reduceLT, Int.reduceLE, Bool.not_true, Bool.not_false, reduceIte, Int.reduceEq, Int.reduceBEq, Int.reduceBNe, Int.reduceGT, Int.reduceGE, Int.reduceNeg, Int.reduceAdd, Int.reduceSub, Nat.reduceBEq, decide_true, decide_false, undef, beq_self_eq_true, bne_self_eq_false, Bool.and_true, Bool.true_and, Bool.and_false, Bool.false_and, Bool.or_true, Bool.true_or, Bool.or_false, Bool.false_or, undef, toKey2, kEq2, beq_self_eq_true, bne_self_eq_false, Bool.and_true, Bool.not_true, Bool.not_false]
  refine ACallL.quiet1 h32 rfl rfl rfl ?_
  simp only [go_sem, Nat.reduceEqDiff, Nat.reduceAdd, Nat.reduceSub, Nat.reduceMul, Nat.reduceLT, Nat.reduceLeDiff, Nat.reduceMod, Nat.reduceDiv, Int.reduceToNat, Int.reduceLT, Int.reduceLE, Bool.not_true, Bool.not_false, reduceIte, Int.reduceEq, Int.reduceBEq, Int.reduceBNe, Int.reduceGT, Int.reduceGE, Int.reduceNeg, Int.reduceAdd, Int.reduceSub, Nat.reduceBEq, decide_true, decide_false, undef, beq_self_eq_true, bne_self_eq_false, Bool.and_true, Bool.true_and, Bool.and_false, Bool.false_and, Bool.or_true, Bool.true_or, Bool.or_false, Bool.false_or, undef]
  exact finL_ret [] ⟨rfl, rfl, rfl, rfl, _, rfl, res_mk rfl⟩
end Go.Proofs.YtmahocdmkpigjaaDoor
