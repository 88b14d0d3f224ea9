/- Proved here: laws that the statements need (ZaC2h, ZaY1, ZaY2). No conditions but those that each law states. -/
import Derived.Test.YtcpkkjbkbdmopaaGreatFL
import Derived.Test.YtcpkkjbkbdmopaaGreatFP
import Derived.Test.YtcpkkjbkbdmopaaGreatProg
import Derived.Test.YtcpkkjbkbdmopaaGreatZK
import Derived.Test.YtcpkkjbkbdmopaaGreatZI
import Derived.Test.YtcpkkjbkbdmopaaGreatZE

set_option linter.unusedSimpArgs false
set_option linter.unusedVariables false

/- Compiled code of functions, printed by program; each is checked to be the program's. No conditions. -/
namespace Go.Proofs.YtcpkkjbkbdmopaaGreat
open Go Go.Ab
/-- dipworks/dipworksref11.Ready -/
def c7 : AC :=
 .seq (.reg [⟨(some 2), none, .box (.tmp 0)⟩,
 ⟨(some 4), none, .alloc [(.int .i64 0), (.int .i64 0)]⟩,
 ⟨(some 5), none, .mov (.lit (.int .i64 0))⟩])
 (.seq (.reg [⟨(some 9), none, .load true 10 (.tmp 2)⟩,
 ⟨(some 10), none, .mov (.tmp 1)⟩,
 ⟨(some 11), none, .call (.fn 30) [(.tmp 9), (.lit (.bool true)), (.tmp 10)]⟩,
 ⟨(some 8), none, .mov (.tmp 11)⟩,
 ⟨(some 12), none, .ext (.tmp 8) 0⟩,
 ⟨(some 13), none, .ext (.tmp 8) 1⟩,
 ⟨(some 6), none, .alloc [(.int .i64 0), (.int .i64 0)]⟩,
 ⟨none, none, .store 2 (.tmp 6) (.tmp 12)⟩,
 ⟨(some 7), none, .mov (.tmp 13)⟩])
 (.seq (.seq (.reg [⟨(some 14), none, .mov (.tmp 7)⟩,
 ⟨(some 15), none, .bin .neq (.tmp 14) (.lit (.int .i64 0))⟩])
 (.cond (.tmp 15) (.seq (.reg [⟨(some 16), none, .build [(.int .i64 0), (.int .i64 0)] []⟩,
 ⟨(some 17), none, .mov (.tmp 7)⟩,
 ⟨none, none, .store 2 (.tmp 4) (.tmp 16)⟩,
 ⟨(some 5), none, .mov (.tmp 17)⟩])
 (.ret))
 (.skip)))
 (.seq (.reg [⟨(some 18), none, .faddr 0 (.tmp 6)⟩,
 ⟨(some 19), none, .load false 1 (.tmp 18)⟩,
 ⟨(some 20), none, .mxmn true (.lit (.int .i64 0)) [(.tmp 19)]⟩,
 ⟨(some 21), none, .faddr 1 (.tmp 6)⟩,
 ⟨(some 22), none, .load false 1 (.tmp 21)⟩,
 ⟨(some 23), none, .mxmn true (.lit (.int .i64 0)) [(.tmp 22)]⟩,
 ⟨(some 24), none, .build [(.int .i64 0), (.int .i64 0)] [(0, 1, (.tmp 20)), (1, 1, (.tmp 23))]⟩,
 ⟨none, none, .store 2 (.tmp 4) (.tmp 24)⟩,
 ⟨(some 5), none, .mov (.lit (.int .i64 0))⟩])
 (.ret))))
theorem k7 : FnC Tryz.prog 7 25 [4] [] [.cell 4 true 2, .tmp 5] c7 2 := ⟨Tryz.f7, _, Tryz.func7, rfl, by decide, rfl, by decide, by kernel_rfl, by kernel_rfl⟩
/-- dipworks/dipworksref11.Enough -/
def c9 : AC :=
 .seq (.reg [⟨(some 3), none, .box (.tmp 0)⟩,
 ⟨(some 6), none, .mov (.lit (.int .i64 0))⟩,
 ⟨(some 7), none, .mov (.lit (.int .i64 0))⟩])
 (.seq (.draw (.step ⟨(some 11), none, .load true 10 (.tmp 3)⟩ (
 .step ⟨(some 12), none, .mov (.tmp 2)⟩ (
 .step ⟨(some 14), none, .mov (.tmp 1)⟩ (
 .ev ⟨(some 13), none, .call (.fn 33) [(.tmp 12), (.lit (.int .i64 0)), (.lit (.int .i64 60))]⟩ [⟨(some 11), none, .load true 10 (.tmp 3)⟩] (
 .ev ⟨(some 15), none, .call (.fn 30) [(.tmp 11), (.tmp 13), (.tmp 14)]⟩ [] (
 .step ⟨(some 10), none, .mov (.tmp 15)⟩ (
 .step ⟨(some 16), none, .ext (.tmp 10) 0⟩ (
 .step ⟨(some 17), none, .ext (.tmp 10) 1⟩ (
 .ev ⟨(some 8), none, .alloc [(.int .i64 0), (.int .i64 0)]⟩ [⟨(some 11), none, .load true 10 (.tmp 3)⟩] (
 .ev ⟨none, none, .store 2 (.tmp 8) (.tmp 16)⟩ [] (
 .step ⟨(some 9), none, .mov (.tmp 17)⟩ (
 .done))
 (.stop))
 (.stop)))))
 (.ev ⟨(some 8), none, .alloc [(.int .i64 0), (.int .i64 0)]⟩ [⟨(some 11), none, .load true 10 (.tmp 3)⟩] (
 .ev ⟨(some 15), none, .call (.fn 30) [(.tmp 11), (.tmp 13), (.tmp 14)]⟩ [] (
 .step ⟨(some 10), none, .mov (.tmp 15)⟩ (
 .step ⟨(some 16), none, .ext (.tmp 10) 0⟩ (
 .step ⟨(some 17), none, .ext (.tmp 10) 1⟩ (
 .ev ⟨none, none, .store 2 (.tmp 8) (.tmp 16)⟩ [] (
 .step ⟨(some 9), none, .mov (.tmp 17)⟩ (
 .done))
 (.stop)))))
 (.stop))
 (.stop)))
 (.ev ⟨(some 8), none, .alloc [(.int .i64 0), (.int .i64 0)]⟩ [⟨(some 11), none, .load true 10 (.tmp 3)⟩] (
 .ev ⟨(some 13), none, .call (.fn 33) [(.tmp 12), (.lit (.int .i64 0)), (.lit (.int .i64 60))]⟩ [⟨(some 11), none, .load true 10 (.tmp 3)⟩] (
 .ev ⟨(some 15), none, .call (.fn 30) [(.tmp 11), (.tmp 13), (.tmp 14)]⟩ [] (
 .step ⟨(some 10), none, .mov (.tmp 15)⟩ (
 .step ⟨(some 16), none, .ext (.tmp 10) 0⟩ (
 .step ⟨(some 17), none, .ext (.tmp 10) 1⟩ (
 .ev ⟨none, none, .store 2 (.tmp 8) (.tmp 16)⟩ [] (
 .step ⟨(some 9), none, .mov (.tmp 17)⟩ (
 .done))
 (.stop)))))
 (.stop))
 (.stop))
 (.stop)))))))
 (.seq (.seq (.reg [⟨(some 18), none, .mov (.tmp 9)⟩,
 ⟨(some 19), none, .bin .neq (.tmp 18) (.lit (.int .i64 0))⟩])
 (.cond (.tmp 19) (.seq (.reg [⟨(some 20), none, .mov (.tmp 9)⟩,
 ⟨(some 6), none, .mov (.lit (.int .i64 0))⟩,
 ⟨(some 7), none, .mov (.tmp 20)⟩])
 (.ret))
 (.skip)))
 (.seq (.seq (.reg [⟨(some 21), none, .faddr 0 (.tmp 8)⟩,
 ⟨(some 22), none, .load false 1 (.tmp 21)⟩,
 ⟨(some 23), none, .mxmn true (.lit (.int .i64 0)) [(.tmp 22)]⟩,
 ⟨(some 24), none, .mov (.tmp 2)⟩,
 ⟨(some 25), none, .bin .geq (.tmp 23) (.tmp 24)⟩])
 (.cond (.tmp 25) (.seq (.reg [⟨(some 6), none, .mov (.lit (.int .i64 2))⟩,
 ⟨(some 7), none, .mov (.lit (.int .i64 0))⟩])
 (.ret))
 (.skip)))
 (.seq (.seq (.reg [⟨(some 26), none, .faddr 1 (.tmp 8)⟩,
 ⟨(some 27), none, .load false 1 (.tmp 26)⟩,
 ⟨(some 28), none, .mxmn true (.lit (.int .i64 0)) [(.tmp 27)]⟩,
 ⟨(some 29), none, .mov (.tmp 2)⟩,
 ⟨(some 30), none, .bin .lss (.tmp 28) (.tmp 29)⟩])
 (.cond (.tmp 30) (.seq (.reg [⟨(some 6), none, .mov (.lit (.int .i64 0))⟩,
 ⟨(some 7), none, .mov (.lit (.int .i64 0))⟩])
 (.ret))
 (.skip)))
 (.seq (.reg [⟨(some 6), none, .mov (.lit (.int .i64 1))⟩,
 ⟨(some 7), none, .mov (.lit (.int .i64 0))⟩])
 (.ret))))))
theorem k9 : FnC Tryz.prog 9 31 [] [] [.tmp 6, .tmp 7] c9 3 := ⟨Tryz.f9, _, Tryz.func9, rfl, by decide, rfl, by decide, by kernel_rfl, by kernel_rfl⟩
/-- dipworks/dipworksref11.When -/
def c11 : AC :=
 .seq (.reg [⟨(some 2), none, .box (.tmp 0)⟩,
 ⟨(some 4), none, .mov (.lit (.int .i64 0))⟩,
 ⟨(some 5), none, .mov (.lit (.int .i64 0))⟩])
 (.seq (.draw (.step ⟨(some 14), none, .load true 10 (.tmp 2)⟩ (
 .step ⟨(some 15), none, .mov (.tmp 1)⟩ (
 .ev ⟨(some 16), none, .call (.fn 33) [(.tmp 15), (.lit (.int .i64 0)), (.lit (.int .i64 60))]⟩ [⟨(some 14), none, .load true 10 (.tmp 2)⟩] (
 .ev ⟨(some 17), none, .call (.fn 30) [(.tmp 14), (.tmp 16), (.lit (.int .i64 0))]⟩ [] (
 .step ⟨(some 13), none, .mov (.tmp 17)⟩ (
 .step ⟨(some 18), none, .ext (.tmp 13) 0⟩ (
 .step ⟨(some 19), none, .ext (.tmp 13) 1⟩ (
 .ev ⟨(some 6), none, .alloc [(.int .i64 0), (.int .i64 0)]⟩ [⟨(some 14), none, .load true 10 (.tmp 2)⟩] (
 .ev ⟨none, none, .store 2 (.tmp 6) (.tmp 18)⟩ [] (
 .step ⟨(some 7), none, .mov (.tmp 19)⟩ (
 .done))
 (.stop))
 (.stop)))))
 (.ev ⟨(some 6), none, .alloc [(.int .i64 0), (.int .i64 0)]⟩ [⟨(some 14), none, .load true 10 (.tmp 2)⟩] (
 .ev ⟨(some 17), none, .call (.fn 30) [(.tmp 14), (.tmp 16), (.lit (.int .i64 0))]⟩ [] (
 .step ⟨(some 13), none, .mov (.tmp 17)⟩ (
 .step ⟨(some 18), none, .ext (.tmp 13) 0⟩ (
 .step ⟨(some 19), none, .ext (.tmp 13) 1⟩ (
 .ev ⟨none, none, .store 2 (.tmp 6) (.tmp 18)⟩ [] (
 .step ⟨(some 7), none, .mov (.tmp 19)⟩ (
 .done))
 (.stop)))))
 (.stop))
 (.stop)))
 (.ev ⟨(some 6), none, .alloc [(.int .i64 0), (.int .i64 0)]⟩ [⟨(some 14), none, .load true 10 (.tmp 2)⟩] (
 .ev ⟨(some 16), none, .call (.fn 33) [(.tmp 15), (.lit (.int .i64 0)), (.lit (.int .i64 60))]⟩ [⟨(some 14), none, .load true 10 (.tmp 2)⟩] (
 .ev ⟨(some 17), none, .call (.fn 30) [(.tmp 14), (.tmp 16), (.lit (.int .i64 0))]⟩ [] (
 .step ⟨(some 13), none, .mov (.tmp 17)⟩ (
 .step ⟨(some 18), none, .ext (.tmp 13) 0⟩ (
 .step ⟨(some 19), none, .ext (.tmp 13) 1⟩ (
 .ev ⟨none, none, .store 2 (.tmp 6) (.tmp 18)⟩ [] (
 .step ⟨(some 7), none, .mov (.tmp 19)⟩ (
 .done))
 (.stop)))))
 (.stop))
 (.stop))
 (.stop))))))
 (.seq (.seq (.reg [⟨(some 20), none, .mov (.tmp 7)⟩,
 ⟨(some 21), none, .bin .neq (.tmp 20) (.lit (.int .i64 0))⟩])
 (.cond (.tmp 21) (.seq (.reg [⟨(some 22), none, .mov (.tmp 7)⟩,
 ⟨(some 4), none, .mov (.lit (.int .i64 0))⟩,
 ⟨(some 5), none, .mov (.tmp 22)⟩])
 (.ret))
 (.skip)))
 (.seq (.seq (.reg [⟨(some 8), none, .mov (.lit (.int .i64 0))⟩])
 (.block 0 (.loop (.seq (.seq (.reg [⟨(some 23), none, .mov (.tmp 8)⟩,
 ⟨(some 24), none, .faddr 4 (.tmp 2)⟩,
 ⟨(some 25), none, .load false 1 (.tmp 24)⟩,
 ⟨(some 26), none, .bin .leq (.tmp 23) (.tmp 25)⟩])
 (.cond (.tmp 26) (.skip)
 (.exit 0)))
 (.seq (.block 1 (.seq (.reg [⟨(some 9), none, .mov (.lit (.bool true))⟩])
 (.seq (.seq (.reg [⟨(some 29), none, .mov (.tmp 8)⟩,
 ⟨(some 10), none, .mov (.tmp 29)⟩])
 (.block 2 (.loop (.seq (.seq (.reg [⟨(some 30), none, .mov (.tmp 10)⟩,
 ⟨(some 31), none, .faddr 4 (.tmp 2)⟩,
 ⟨(some 32), none, .load false 1 (.tmp 31)⟩,
 ⟨(some 33), none, .bin .leq (.tmp 30) (.tmp 32)⟩])
 (.cond (.tmp 33) (.skip)
 (.exit 2)))
 (.seq (.block 3 (.seq (.reg [⟨(some 37), none, .load true 10 (.tmp 2)⟩,
 ⟨(some 38), none, .mov (.tmp 10)⟩,
 ⟨(some 39), none, .call (.fn 40) [(.tmp 37), (.tmp 38)]⟩,
 ⟨(some 36), none, .mov (.tmp 39)⟩,
 ⟨(some 40), none, .ext (.tmp 36) 0⟩,
 ⟨(some 41), none, .ext (.tmp 36) 1⟩,
 ⟨(some 11), none, .alloc [(.int .i64 0), (.int .i64 0)]⟩,
 ⟨none, none, .store 2 (.tmp 11) (.tmp 40)⟩,
 ⟨(some 12), none, .mov (.tmp 41)⟩])
 (.reg [⟨(some 42), none, .mov (.tmp 9)⟩,
 ⟨(some 43), none, .mov (.tmp 42)⟩,
 ⟨(some 44), (some (43, true)), .faddr 0 (.tmp 11)⟩,
 ⟨(some 45), (some (43, true)), .load false 1 (.tmp 44)⟩,
 ⟨(some 46), (some (43, true)), .mxmn true (.lit (.int .i64 0)) [(.tmp 45)]⟩,
 ⟨(some 47), (some (43, true)), .mov (.tmp 1)⟩,
 ⟨(some 48), (some (43, true)), .bin .geq (.tmp 46) (.tmp 47)⟩,
 ⟨(some 49), none, .pick (.tmp 43) (.tmp 48) (.lit (.bool false))⟩,
 ⟨(some 9), none, .mov (.tmp 49)⟩])))
 (.reg [⟨(some 34), none, .mov (.tmp 10)⟩,
 ⟨(some 35), none, .bin .add (.tmp 34) (.lit (.int .i64 1))⟩,
 ⟨(some 10), none, .mov (.tmp 35)⟩]))))))
 (.seq (.reg [⟨(some 50), none, .mov (.tmp 9)⟩])
 (.cond (.tmp 50) (.seq (.reg [⟨(some 51), none, .mov (.tmp 8)⟩,
 ⟨(some 4), none, .mov (.tmp 51)⟩,
 ⟨(some 5), none, .mov (.lit (.int .i64 0))⟩])
 (.ret))
 (.skip))))))
 (.reg [⟨(some 27), none, .mov (.tmp 8)⟩,
 ⟨(some 28), none, .bin .add (.tmp 27) (.lit (.int .i64 1))⟩,
 ⟨(some 8), none, .mov (.tmp 28)⟩]))))))
 (.seq (.reg [⟨(some 4), none, .mov (.lit (.int .i64 0))⟩,
 ⟨(some 5), none, .mov (.lit (.int .i64 4))⟩])
 (.ret)))))
theorem k11 : FnC Tryz.prog 11 52 [] [] [.tmp 4, .tmp 5] c11 2 := ⟨Tryz.f11, _, Tryz.func11, rfl, by decide, rfl, by decide, by kernel_rfl, by kernel_rfl⟩
/-- dipworks/dipworksref11.Buy -/
def c13 : AC :=
 .seq (.reg [⟨(some 3), none, .box (.tmp 0)⟩,
 ⟨(some 6), none, .mov (.lit (.int .i64 0))⟩,
 ⟨(some 7), none, .mov (.lit (.int .i64 0))⟩])
 (.seq (.draw (.step ⟨(some 12), none, .load true 10 (.tmp 3)⟩ (
 .step ⟨(some 13), none, .mov (.tmp 2)⟩ (
 .step ⟨(some 15), none, .mov (.tmp 1)⟩ (
 .ev ⟨(some 14), none, .call (.fn 33) [(.tmp 13), (.lit (.int .i64 0)), (.lit (.int .i64 60))]⟩ [⟨(some 12), none, .load true 10 (.tmp 3)⟩] (
 .ev ⟨(some 16), none, .call (.fn 30) [(.tmp 12), (.tmp 14), (.tmp 15)]⟩ [] (
 .step ⟨(some 11), none, .mov (.tmp 16)⟩ (
 .step ⟨(some 17), none, .ext (.tmp 11) 0⟩ (
 .step ⟨(some 18), none, .ext (.tmp 11) 1⟩ (
 .ev ⟨(some 8), none, .alloc [(.int .i64 0), (.int .i64 0)]⟩ [⟨(some 12), none, .load true 10 (.tmp 3)⟩] (
 .ev ⟨none, none, .store 2 (.tmp 8) (.tmp 17)⟩ [] (
 .step ⟨(some 9), none, .mov (.tmp 18)⟩ (
 .done))
 (.stop))
 (.stop)))))
 (.ev ⟨(some 8), none, .alloc [(.int .i64 0), (.int .i64 0)]⟩ [⟨(some 12), none, .load true 10 (.tmp 3)⟩] (
 .ev ⟨(some 16), none, .call (.fn 30) [(.tmp 12), (.tmp 14), (.tmp 15)]⟩ [] (
 .step ⟨(some 11), none, .mov (.tmp 16)⟩ (
 .step ⟨(some 17), none, .ext (.tmp 11) 0⟩ (
 .step ⟨(some 18), none, .ext (.tmp 11) 1⟩ (
 .ev ⟨none, none, .store 2 (.tmp 8) (.tmp 17)⟩ [] (
 .step ⟨(some 9), none, .mov (.tmp 18)⟩ (
 .done))
 (.stop)))))
 (.stop))
 (.stop)))
 (.ev ⟨(some 8), none, .alloc [(.int .i64 0), (.int .i64 0)]⟩ [⟨(some 12), none, .load true 10 (.tmp 3)⟩] (
 .ev ⟨(some 14), none, .call (.fn 33) [(.tmp 13), (.lit (.int .i64 0)), (.lit (.int .i64 60))]⟩ [⟨(some 12), none, .load true 10 (.tmp 3)⟩] (
 .ev ⟨(some 16), none, .call (.fn 30) [(.tmp 12), (.tmp 14), (.tmp 15)]⟩ [] (
 .step ⟨(some 11), none, .mov (.tmp 16)⟩ (
 .step ⟨(some 17), none, .ext (.tmp 11) 0⟩ (
 .step ⟨(some 18), none, .ext (.tmp 11) 1⟩ (
 .ev ⟨none, none, .store 2 (.tmp 8) (.tmp 17)⟩ [] (
 .step ⟨(some 9), none, .mov (.tmp 18)⟩ (
 .done))
 (.stop)))))
 (.stop))
 (.stop))
 (.stop)))))))
 (.seq (.seq (.reg [⟨(some 19), none, .mov (.tmp 9)⟩,
 ⟨(some 20), none, .bin .neq (.tmp 19) (.lit (.int .i64 0))⟩])
 (.cond (.tmp 20) (.seq (.reg [⟨(some 21), none, .mov (.tmp 9)⟩,
 ⟨(some 6), none, .mov (.lit (.int .i64 0))⟩,
 ⟨(some 7), none, .mov (.tmp 21)⟩])
 (.ret))
 (.skip)))
 (.seq (.reg [⟨(some 10), none, .mov (.lit (.int .i64 0))⟩])
 (.seq (.block 0 (.loop (.seq (.seq (.reg [⟨(some 22), none, .faddr 0 (.tmp 8)⟩,
 ⟨(some 23), none, .load false 1 (.tmp 22)⟩,
 ⟨(some 24), none, .mov (.tmp 10)⟩,
 ⟨(some 25), none, .bin .add (.tmp 23) (.tmp 24)⟩,
 ⟨(some 26), none, .mxmn true (.lit (.int .i64 0)) [(.tmp 25)]⟩,
 ⟨(some 27), none, .mov (.tmp 2)⟩,
 ⟨(some 28), none, .bin .lss (.tmp 26) (.tmp 27)⟩])
 (.cond (.tmp 28) (.skip)
 (.exit 0)))
 (.block 1 (.reg [⟨(some 29), none, .mov (.tmp 10)⟩,
 ⟨(some 30), none, .bin .add (.tmp 29) (.lit (.int .i64 1))⟩,
 ⟨(some 10), none, .mov (.tmp 30)⟩])))))
 (.seq (.reg [⟨(some 31), none, .mov (.tmp 10)⟩,
 ⟨(some 6), none, .mov (.tmp 31)⟩,
 ⟨(some 7), none, .mov (.lit (.int .i64 0))⟩])
 (.ret))))))
theorem k13 : FnC Tryz.prog 13 32 [] [] [.tmp 6, .tmp 7] c13 3 := ⟨Tryz.f13, _, Tryz.func13, rfl, by decide, rfl, by decide, by kernel_rfl, by kernel_rfl⟩
/-- dipworks/dipworksref11.Owes -/
def c15 : AC :=
 .seq (.reg [⟨(some 2), none, .box (.tmp 0)⟩,
 ⟨(some 4), none, .alloc [(.int .i64 0), (.int .i64 0)]⟩,
 ⟨(some 5), none, .mov (.lit (.int .i64 0))⟩])
 (.seq (.draw (.step ⟨(some 9), none, .load true 10 (.tmp 2)⟩ (
 .step ⟨(some 10), none, .faddr 0 (.tmp 2)⟩ (
 .step ⟨(some 11), none, .load true 3 (.tmp 10)⟩ (
 .step ⟨(some 12), none, .mov (.tmp 1)⟩ (
 .ev ⟨(some 13), none, .call (.fn 46) [(.tmp 11), (.tmp 12)]⟩ [⟨(some 10), none, .faddr 0 (.tmp 2)⟩, ⟨(some 9), none, .load true 10 (.tmp 2)⟩] (
 .ev ⟨(some 14), none, .call (.fn 45) [(.tmp 9), (.tmp 13)]⟩ [⟨(some 11), none, .load true 3 (.tmp 10)⟩, ⟨(some 10), none, .faddr 0 (.tmp 2)⟩] (
 .step ⟨(some 6), none, .mov (.tmp 14)⟩ (
 .done))
 (.stop))
 (.stop)))))))
 (.seq (.seq (.reg [⟨(some 15), none, .mov (.tmp 6)⟩,
 ⟨(some 16), none, .bin .neq (.tmp 15) (.lit (.int .i64 0))⟩])
 (.cond (.tmp 16) (.seq (.reg [⟨(some 17), none, .build [(.int .i64 0), (.int .i64 0)] []⟩,
 ⟨(some 18), none, .mov (.tmp 6)⟩,
 ⟨none, none, .store 2 (.tmp 4) (.tmp 17)⟩,
 ⟨(some 5), none, .mov (.tmp 18)⟩])
 (.ret))
 (.skip)))
 (.seq (.reg [⟨(some 20), none, .faddr 0 (.tmp 2)⟩,
 ⟨(some 21), none, .load true 3 (.tmp 20)⟩,
 ⟨(some 22), none, .mov (.tmp 1)⟩,
 ⟨(some 23), none, .call (.fn 47) [(.tmp 21), (.tmp 22)]⟩,
 ⟨(some 19), none, .mov (.tmp 23)⟩,
 ⟨(some 24), none, .ext (.tmp 19) 0⟩,
 ⟨(some 25), none, .ext (.tmp 19) 1⟩,
 ⟨(some 7), none, .alloc [(.int .i64 0), (.int .i64 0)]⟩,
 ⟨none, none, .store 2 (.tmp 7) (.tmp 24)⟩,
 ⟨(some 8), none, .mov (.tmp 25)⟩])
 (.seq (.seq (.reg [⟨(some 26), none, .mov (.tmp 8)⟩,
 ⟨(some 27), none, .bin .neq (.tmp 26) (.lit (.int .i64 0))⟩])
 (.cond (.tmp 27) (.seq (.reg [⟨(some 28), none, .build [(.int .i64 0), (.int .i64 0)] []⟩,
 ⟨(some 29), none, .mov (.tmp 8)⟩,
 ⟨none, none, .store 2 (.tmp 4) (.tmp 28)⟩,
 ⟨(some 5), none, .mov (.tmp 29)⟩])
 (.ret))
 (.skip)))
 (.seq (.reg [⟨(some 30), none, .faddr 9 (.tmp 2)⟩,
 ⟨(some 31), none, .load false 1 (.tmp 30)⟩,
 ⟨(some 32), none, .faddr 0 (.tmp 7)⟩,
 ⟨(some 33), none, .load false 1 (.tmp 32)⟩,
 ⟨(some 34), none, .bin .mul (.tmp 31) (.tmp 33)⟩,
 ⟨(some 35), none, .faddr 9 (.tmp 2)⟩,
 ⟨(some 36), none, .load false 1 (.tmp 35)⟩,
 ⟨(some 37), none, .faddr 1 (.tmp 7)⟩,
 ⟨(some 38), none, .load false 1 (.tmp 37)⟩,
 ⟨(some 39), none, .bin .mul (.tmp 36) (.tmp 38)⟩,
 ⟨(some 40), none, .build [(.int .i64 0), (.int .i64 0)] [(0, 1, (.tmp 34)), (1, 1, (.tmp 39))]⟩,
 ⟨none, none, .store 2 (.tmp 4) (.tmp 40)⟩,
 ⟨(some 5), none, .mov (.lit (.int .i64 0))⟩])
 (.ret))))))
theorem k15 : FnC Tryz.prog 15 41 [4] [] [.cell 4 true 2, .tmp 5] c15 2 := ⟨Tryz.f15, _, Tryz.func15, rfl, by decide, rfl, by decide, by kernel_rfl, by kernel_rfl⟩
/-- dipworks/dipworksref11.ready -/
def c40 : AC :=
 .seq (.reg [⟨(some 2), none, .box (.tmp 0)⟩,
 ⟨(some 4), none, .alloc [(.int .i64 0), (.int .i64 0)]⟩,
 ⟨(some 5), none, .mov (.lit (.int .i64 0))⟩])
 (.seq (.reg [⟨(some 10), none, .faddr 0 (.tmp 2)⟩,
 ⟨(some 11), none, .load true 3 (.tmp 10)⟩,
 ⟨(some 12), none, .call (.fn 67) [(.tmp 11)]⟩,
 ⟨(some 9), none, .mov (.tmp 12)⟩,
 ⟨(some 13), none, .ext (.tmp 9) 0⟩,
 ⟨(some 14), none, .ext (.tmp 9) 1⟩,
 ⟨(some 6), none, .alloc [(.int .i64 0), (.int .i64 0)]⟩,
 ⟨none, none, .store 2 (.tmp 6) (.tmp 13)⟩,
 ⟨(some 7), none, .mov (.tmp 14)⟩])
 (.seq (.seq (.reg [⟨(some 15), none, .mov (.tmp 7)⟩,
 ⟨(some 16), none, .bin .neq (.tmp 15) (.lit (.int .i64 0))⟩])
 (.cond (.tmp 16) (.seq (.reg [⟨(some 17), none, .build [(.int .i64 0), (.int .i64 0)] []⟩,
 ⟨(some 18), none, .mov (.tmp 7)⟩,
 ⟨none, none, .store 2 (.tmp 4) (.tmp 17)⟩,
 ⟨(some 5), none, .mov (.tmp 18)⟩])
 (.ret))
 (.skip)))
 (.seq (.reg [⟨(some 19), none, .load true 10 (.tmp 2)⟩,
 ⟨(some 20), none, .mov (.tmp 1)⟩,
 ⟨(some 21), none, .call (.fn 68) [(.tmp 19), (.tmp 20)]⟩,
 ⟨(some 8), none, .alloc [(.int .i64 0), (.int .i64 0)]⟩,
 ⟨none, none, .store 2 (.tmp 8) (.tmp 21)⟩])
 (.seq (.reg [⟨(some 22), none, .faddr 3 (.tmp 2)⟩,
 ⟨(some 23), none, .load false 1 (.tmp 22)⟩,
 ⟨(some 24), none, .faddr 1 (.tmp 6)⟩,
 ⟨(some 25), none, .load false 1 (.tmp 24)⟩,
 ⟨(some 26), none, .bin .sub (.tmp 23) (.tmp 25)⟩,
 ⟨(some 27), none, .faddr 1 (.tmp 8)⟩,
 ⟨(some 28), none, .load false 1 (.tmp 27)⟩,
 ⟨(some 29), none, .bin .sub (.tmp 26) (.tmp 28)⟩,
 ⟨(some 30), none, .faddr 3 (.tmp 2)⟩,
 ⟨(some 31), none, .load false 1 (.tmp 30)⟩,
 ⟨(some 32), none, .faddr 0 (.tmp 6)⟩,
 ⟨(some 33), none, .load false 1 (.tmp 32)⟩,
 ⟨(some 34), none, .bin .sub (.tmp 31) (.tmp 33)⟩,
 ⟨(some 35), none, .faddr 0 (.tmp 8)⟩,
 ⟨(some 36), none, .load false 1 (.tmp 35)⟩,
 ⟨(some 37), none, .bin .sub (.tmp 34) (.tmp 36)⟩,
 ⟨(some 38), none, .build [(.int .i64 0), (.int .i64 0)] [(0, 1, (.tmp 29)), (1, 1, (.tmp 37))]⟩,
 ⟨none, none, .store 2 (.tmp 4) (.tmp 38)⟩,
 ⟨(some 5), none, .mov (.lit (.int .i64 0))⟩])
 (.ret)))))
theorem k40 : FnC Tryz.prog 40 39 [4] [] [.cell 4 true 2, .tmp 5] c40 2 := ⟨Tryz.f40, _, Tryz.func40, rfl, by decide, rfl, by decide, by kernel_rfl, by kernel_rfl⟩
/-- dipworks/dipworksref11.told -/
def c30 : AC :=
 .seq (.reg [⟨(some 3), none, .box (.tmp 0)⟩,
 ⟨(some 6), none, .alloc [(.int .i64 0), (.int .i64 0)]⟩,
 ⟨(some 7), none, .mov (.lit (.int .i64 0))⟩])
 (.seq (.draw (.step ⟨(some 9), none, .load true 10 (.tmp 3)⟩ (
 .step ⟨(some 10), none, .mov (.tmp 1)⟩ (
 .step ⟨(some 11), none, .mov (.tmp 10)⟩ (
 .step ⟨(some 12), (some (11, true)), .load true 10 (.tmp 3)⟩ (
 .step ⟨(some 13), (some (11, true)), .mov (.tmp 2)⟩ (
 .ev ⟨(some 14), (some (11, true)), .call (.fn 64) [(.tmp 12), (.tmp 13)]⟩ [⟨(some 9), none, .load true 10 (.tmp 3)⟩] (
 .step ⟨(some 15), none, .pick (.tmp 11) (.tmp 14) (.lit (.bool false))⟩ (
 .ev ⟨(some 16), none, .call (.fn 45) [(.tmp 9), (.tmp 15)]⟩ [⟨(some 12), (some (11, true)), .load true 10 (.tmp 3)⟩] (
 .step ⟨(some 8), none, .mov (.tmp 16)⟩ (
 .done))
 (.stop)))
 (.stop))))))))
 (.seq (.seq (.reg [⟨(some 17), none, .mov (.tmp 8)⟩,
 ⟨(some 18), none, .bin .neq (.tmp 17) (.lit (.int .i64 0))⟩])
 (.cond (.tmp 18) (.seq (.reg [⟨(some 19), none, .build [(.int .i64 0), (.int .i64 0)] []⟩,
 ⟨(some 20), none, .mov (.tmp 8)⟩,
 ⟨none, none, .store 2 (.tmp 6) (.tmp 19)⟩,
 ⟨(some 7), none, .mov (.tmp 20)⟩])
 (.ret))
 (.skip)))
 (.seq (.reg [⟨(some 21), none, .load true 10 (.tmp 3)⟩,
 ⟨(some 22), none, .mov (.tmp 2)⟩,
 ⟨(some 23), none, .call (.fn 40) [(.tmp 21), (.tmp 22)]⟩,
 ⟨(some 24), none, .ext (.tmp 23) 0⟩,
 ⟨(some 25), none, .ext (.tmp 23) 1⟩,
 ⟨none, none, .store 2 (.tmp 6) (.tmp 24)⟩,
 ⟨(some 7), none, .mov (.tmp 25)⟩])
 (.ret))))
theorem k30 : FnC Tryz.prog 30 26 [6] [] [.cell 6 true 2, .tmp 7] c30 3 := ⟨Tryz.f30, _, Tryz.func30, rfl, by decide, rfl, by decide, by kernel_rfl, by kernel_rfl⟩
end Go.Proofs.YtcpkkjbkbdmopaaGreat

/- The reference's Ready, and what it is told by. -/
namespace Go.Proofs.YtcpkkjbkbdmopaaGreat
open Go Go.Ab

/-- What is at hand, without the bound 0. -/
def rdyE (r : Ra) (hour : Nat) : (Int × Int) × Int := if isT r.tw then (r.ready hour, 0) else ((0, 0), 10)

set_option maxRecDepth 8000 in
set_option maxHeartbeats 4000000 in
theorem qready_ok (r : Ra) (hr : r.OK) (hour : Nat) (hh : hour ≤ r.H) : ACall Tryz.prog 40 [.t (tRa r), .t (vi hour)] [] (res (spanE (rdyE r hour).1 (rdyE r hour).2)) := by
  have ha := rAll_ok r.tw
  rw [← All_eq, specAll_at hr] at ha
  have hw := qwet_ok r hr hour hh
  have hw2 : r.wet hour = (r.left false hour, r.left true hour) := rfl
  have b1 := r.left_bd hr true hour
  have b2 := r.left_bd hr false hour
  have b4 := hr.stock
  refine ACall.walk k40 ?_
  unfold c40
  unfold tRa at hw ⊢
  unfold tw3 ra7 at hw ⊢
  unfold tw3 at ha
  simp only [List.cons_append, List.nil_append] at hw
  cases hT : isT r.tw
  · rw [hT] at ha
    simp only [Bool.false_eq_true, if_false] at ha
    simp only [go_sem, Nat.reduceEqDiff, Nat.reduceAdd, Nat.reduceLeDiff]
    refine ACallL.quiet1 ha rfl rfl rfl ?_
    simp only [spanE, tS, go_sem, Nat.reduceEqDiff, Nat.reduceAdd, Int.reduceBNe, undef]
    exact finL_ret [] ⟨rfl, rfl, rfl, rfl, _, rfl, res_mk (by unfold rdyE; rw [hT]; rfl)⟩
  · rw [hT] at ha
    simp only [if_true] at ha
    have b3 := r.all_bd hr hT
    have e0 : r.ready hour = (r.stock - (r.all.2 + r.left true hour), r.stock - (r.all.1 + r.left false hour)) := rfl
    rw [hw2] at hw
    generalize r.left true hour = L1 at *
    generalize r.left false hour = L2 at *
    generalize r.all = A at *
    obtain ⟨a1, a2⟩ := A
    have w1 : IntKind.i64.wrap (r.stock - a2) = r.stock - a2 := wrap_id (by omega) (by omega)
    have w2 : IntKind.i64.wrap (r.stock - a2 - L1) = r.stock - (a2 + L1) := by rw [wrap_id (by omega) (by omega)]; omega
    have w3 : IntKind.i64.wrap (r.stock - a1) = r.stock - a1 := wrap_id (by omega) (by omega)
    have w4 : IntKind.i64.wrap (r.stock - a1 - L2) = r.stock - (a1 + L2) := by rw [wrap_id (by omega) (by omega)]; omega
    simp only [go_sem, Nat.reduceEqDiff, Nat.reduceAdd, Nat.reduceLeDiff]
    refine ACallL.quiet1 ha rfl rfl rfl ?_
    simp only [spanE, tS, go_sem, Nat.reduceEqDiff, Nat.reduceAdd, undef, bne_self_eq_false]
    refine ACallL.quiet1 hw rfl rfl rfl ?_
    simp only [tS, go_sem, Nat.reduceEqDiff, Nat.reduceAdd, Nat.reduceLeDiff, undef, w1, w2, w3, w4]
    exact finL_ret [] ⟨rfl, rfl, rfl, rfl, _, rfl, res_mk (by unfold rdyE; rw [hT, e0]; rfl)⟩

/-- The same, or an error. -/
def toldR (r : Ra) (v : Bool) (h : Int) : (Int × Int) × Int := ans r (v && r.isH h) (0, 0) (r.ready h.toNat, 0)
set_option maxRecDepth 8000 in
set_option maxHeartbeats 4000000 in
theorem qtold_ok (r : Ra) (v : Bool) (h : Int) (hL : r.lines.length < 9223372036854775808) : ACall Tryz.prog 30 [.t (tRa r), .t (vb v), .t (vi h)] [] (res (spanE (toldR r v h).1 (toldR r v h).2)) := by
  have hc := qcheck_ok r hL (v && r.isH h)
  have hi := qhour_ok r h
  have hw0 := fun (hr : r.OK) n hn => qready_ok r hr n hn
  refine ACall.walk k30 ?_
  unfold c30
  unfold tRa at hc hi hw0 ⊢
  unfold tw3 ra7 at hc hi hw0 ⊢
  simp only [List.cons_append, List.nil_append] at hc hi hw0
  have body : ∀ b : Bool, (v && r.isH h) = b → True := fun _ _ => trivial
  clear body
  cases v
  · rw [Bool.false_and] at hc
    simp only [go_sem, Nat.reduceEqDiff, Nat.reduceAdd, undef]
    refine ACallL.quiet1 hc rfl rfl rfl ?_
    cases hok : r.ok
    · have e : chk r false = 1 := by unfold chk; rw [hok]; rfl
      rw [e]
      simp only [go_sem, Nat.reduceEqDiff, Nat.reduceAdd, Int.reduceBNe, undef]
      exact finL_ret [] ⟨rfl, rfl, rfl, rfl, _, rfl, res_mk (by unfold toldR ans; rw [hok]; rfl)⟩
    · have e : chk r false = 2 := by unfold chk; rw [hok]; rfl
      rw [e]
      simp only [go_sem, Nat.reduceEqDiff, Nat.reduceAdd, Int.reduceBNe, undef]
      exact finL_ret [] ⟨rfl, rfl, rfl, rfl, _, rfl, res_mk (by unfold toldR ans; rw [hok]; rfl)⟩
  rw [Bool.true_and] at hc
  simp only [go_sem, Nat.reduceEqDiff, Nat.reduceAdd, beq_self_eq_true]
  refine ACallL.quiet1 hi rfl rfl rfl ?_
  simp only [go_sem, Nat.reduceEqDiff, Nat.reduceAdd]
  refine ACallL.quiet1 hc rfl rfl rfl ?_
  cases hok : r.ok
  · have e : chk r (r.isH h) = 1 := by unfold chk; rw [hok]; rfl
    rw [e]
    simp only [go_sem, Nat.reduceEqDiff, Nat.reduceAdd, Int.reduceBNe, undef, beq_self_eq_true]
    exact finL_ret [] ⟨rfl, rfl, rfl, rfl, _, rfl, res_mk (by unfold toldR ans; rw [hok]; rfl)⟩
  cases hh : r.isH h
  · have e : chk r false = 2 := by unfold chk; rw [hok]; rfl
    rw [e]
    simp only [go_sem, Nat.reduceEqDiff, Nat.reduceAdd, Int.reduceBNe, undef, beq_self_eq_true]
    exact finL_ret [] ⟨rfl, rfl, rfl, rfl, _, rfl, res_mk (by unfold toldR ans; rw [hok, hh]; rfl)⟩
  have e : chk r true = 0 := by unfold chk; rw [hok]; rfl
  rw [e]
  have hr := (r.ok_iff).1 hok
  obtain ⟨n, rfl, hn⟩ := isH_nat hr hh
  have hw := hw0 hr n hn
  have ht : toldR r true n = rdyE r n := by unfold toldR ans rdyE; rw [hok, hh]; rfl
  simp only [go_sem, Nat.reduceEqDiff, Nat.reduceAdd, undef, beq_self_eq_true, bne_self_eq_false]
  refine ACallL.quiet1 hw rfl rfl rfl ?_
  simp only [spanE, tS, go_sem, Nat.reduceEqDiff, Nat.reduceAdd, undef]
  exact finL_ret [] ⟨rfl, rfl, rfl, rfl, _, rfl, res_mk (by rw [ht]; rfl)⟩

theorem toldR_val (r : Ra) (v : Bool) (h : Int) : (r.ok = true ∧ v = true ∧ r.isH h = true ∧ isT r.tw = true ∧ toldR r v h = (r.ready h.toNat, 0)) ∨ ∃ e, e ≠ 0 ∧ toldR r v h = ((0, 0), e) ∧ ∀ {α : Type} (is : Bool) (z : α) (x : α × Int), (is = (v && r.isH h)) → ans r is z x = (z, e) := by
  unfold toldR ans
  cases hok : r.ok
  · exact .inr ⟨1, by decide, rfl, fun _ _ _ _ => rfl⟩
  cases hv : v && r.isH h
  · exact .inr ⟨2, by decide, rfl, fun is z x hi => by subst hi; rfl⟩
  cases hT : isT r.tw
  · exact .inr ⟨10, by decide, rfl, fun is z x hi => by subst hi; rfl⟩
  · rw [Bool.and_eq_true] at hv
    exact .inl ⟨rfl, hv.1, hv.2, rfl, rfl⟩

set_option maxRecDepth 8000 in
set_option maxHeartbeats 4000000 in
theorem qReady_ok (r : Ra) (h : Int) (hL : r.lines.length < 9223372036854775808) : ACall Tryz.prog 7 [.t (tRa r), .t (vi h)] [] (res (spanE (specReady r h).1 (specReady r h).2)) := by
  have ht := qtold_ok r true h hL
  have hv := toldR_val r true h
  refine ACall.walk k7 ?_
  unfold c7
  unfold tRa at ht ⊢
  unfold tw3 ra7 at ht ⊢
  simp only [List.cons_append, List.nil_append] at ht
  rcases hv with ⟨hok, -, hh, hT, e⟩ | ⟨e, he, e1, e2⟩
  · rw [e] at ht
    simp only [go_sem, Nat.reduceEqDiff, Nat.reduceAdd]
    refine ACallL.quiet1 ht rfl rfl rfl ?_
    simp only [spanE, tS, go_sem, Nat.reduceEqDiff, Nat.reduceAdd, Nat.reduceLeDiff, undef, bne_self_eq_false]
    exact finL_ret [] ⟨rfl, rfl, rfl, rfl, _, rfl, res_mk (by unfold specReady ans; rw [hok, hh, hT]; rfl)⟩
  · rw [e1] at ht
    have z1 : (e == 0) = false := beq_false_of_ne he
    have z2 : (e != 0) = true := bne_iff_ne.2 he
    simp only [go_sem, Nat.reduceEqDiff, Nat.reduceAdd]
    refine ACallL.quiet1 ht rfl rfl rfl ?_
    simp only [spanE, tS, go_sem, Nat.reduceEqDiff, Nat.reduceAdd, undef, z2]
    exact finL_ret [] ⟨rfl, rfl, rfl, rfl, _, rfl, res_mk (by unfold specReady; rw [e2 _ _ _ (Bool.true_and _).symm]; rfl)⟩
end Go.Proofs.YtcpkkjbkbdmopaaGreat

/- The reference's Enough, Buy and When. -/
namespace Go.Proofs.YtcpkkjbkbdmopaaGreat
open Go Go.Ab

set_option maxRecDepth 8000 in
set_option maxHeartbeats 4000000 in
theorem qEnough_ok (r : Ra) (h many : Int) (hL : r.lines.length < 9223372036854775808) : ACall Tryz.prog 9 [.t (tRa r), .t (vi h), .t (vi many)] [] (res (oneE (specEnough r h many).1 (specEnough r h many).2)) := by
  have hi := qin_ok many 0 60
  have ht := qtold_ok r (wI many 0 60) h hL
  have hv := toldR_val r (wI many 0 60) h
  refine ACall.walk k9 ?_
  unfold c9
  refine awpL_chop 3 (c1 := ?a1) (c2 := ?a2) (fun s => r.ok = true ∧ wI many 0 60 = true ∧ r.isH h = true ∧ isT r.tw = true ∧ lk s.env 2 = .t (vi many) ∧ lk s.env 8 = .ptr 1 0 ∧ s.σ = [.cells ((tw3 r.tw ++ ra7 r).map .t), .cells [.t (vi (r.ready h.toNat).1), .t (vi (r.ready h.toNat).2)]] ∧ s.df = [] ∧ s.k = 0) ?hc ?_ ?_
  case hc => simp only [chop]; rfl
  · unfold tRa at ht ⊢
    unfold tw3 ra7 at ht ⊢
    simp only [List.cons_append, List.nil_append] at ht
    rcases hv with ⟨hok, hm, hh, hT, e⟩ | ⟨e, he, e1, e2⟩
    · rw [e] at ht
      simp only [go_sem, Nat.reduceEqDiff, Nat.reduceAdd]
      repeat' (first
        | refine AndL.mk ?_ ?_
        | refine ACallL.quiet1 hi rfl rfl rfl ?_
        | refine ACallL.quiet1 ht rfl rfl rfl ?_
        | exact ⟨hok, hm, hh, hT⟩
        | simp only [spanE, tS, go_sem, Nat.reduceEqDiff, Nat.reduceAdd, undef, bne_self_eq_false])
    · rw [e1] at ht
      have z1 : (e == 0) = false := beq_false_of_ne he
      have z2 : (e != 0) = true := bne_iff_ne.2 he
      have e3 : specEnough r h many = (0, e) := e2 _ _ _ (Bool.and_comm _ _)
      simp only [go_sem, Nat.reduceEqDiff, Nat.reduceAdd]
      repeat' (first
        | refine AndL.mk ?_ ?_
        | refine ACallL.quiet1 hi rfl rfl rfl ?_
        | refine ACallL.quiet1 ht rfl rfl rfl ?_
        | exact finL_ret [] ⟨rfl, rfl, rfl, rfl, _, rfl, res_mk (by rw [e3]; rfl)⟩
        | simp only [spanE, tS, go_sem, Nat.reduceEqDiff, Nat.reduceAdd, undef, z2])
  rintro ⟨env, σ, df, k⟩ ⟨hok, hm, hh, hT, q2, q8, hσ, hdf, hk⟩
  simp only at q2 q8 hσ hdf hk
  subst hσ hdf hk
  have hr := (r.ok_iff).1 hok
  have hm2 : isMany many = true := hm
  have hs : specEnough r h many = (if many = 0 ∨ many ≤ (r.ready h.toNat).1 then 2 else if (r.ready h.toNat).2 < many then 0 else 1, 0) := by unfold specEnough ans; rw [hok, hh, hm2, hT]; rfl
  have bd := r.ready_bd hr hT h.toNat
  have hmm := of_decide_eq_true hm
  generalize r.ready h.toNat = X at *
  obtain ⟨lo, hi⟩ := X
  simp only at bd hs
  cases c1 : decide (max 0 lo ≥ many)
  · have d1 := of_decide_eq_false c1
    cases c2 : decide (max 0 hi < many)
    · have d2 := of_decide_eq_false c2
      simp only [go_sem, Nat.reduceEqDiff, Nat.reduceAdd, Nat.reduceLeDiff, q2, q8, c1, c2]
      exact finL_ret [] ⟨rfl, rfl, rfl, rfl, _, rfl, res_mk (by rw [hs, if_neg (by omega), if_neg (by omega)]; rfl)⟩
    · have d2 := of_decide_eq_true c2
      simp only [go_sem, Nat.reduceEqDiff, Nat.reduceAdd, Nat.reduceLeDiff, q2, q8, c1, c2]
      exact finL_ret [] ⟨rfl, rfl, rfl, rfl, _, rfl, res_mk (by rw [hs, if_neg (by omega), if_pos (by omega)]; rfl)⟩
  · have d1 := of_decide_eq_true c1
    simp only [go_sem, Nat.reduceEqDiff, Nat.reduceAdd, Nat.reduceLeDiff, q2, q8, c1]
    exact finL_ret [] ⟨rfl, rfl, rfl, rfl, _, rfl, res_mk (by rw [hs, if_pos (by omega)]; rfl)⟩

set_option maxRecDepth 8000 in
set_option maxHeartbeats 4000000 in
theorem qBuy_ok (r : Ra) (h many : Int) (hL : r.lines.length < 9223372036854775808) : ACall Tryz.prog 13 [.t (tRa r), .t (vi h), .t (vi many)] [] (res (oneE (specBuy r h many).1 (specBuy r h many).2)) := by
  have hi := qin_ok many 0 60
  have ht := qtold_ok r (wI many 0 60) h hL
  have hv := toldR_val r (wI many 0 60) h
  refine ACall.walk k13 ?_
  unfold c13
  refine awpL_chop 3 (c1 := ?a1) (c2 := ?a2) (fun s => r.ok = true ∧ wI many 0 60 = true ∧ r.isH h = true ∧ isT r.tw = true ∧ lk s.env 2 = .t (vi many) ∧ lk s.env 8 = .ptr 1 0 ∧ s.σ = [.cells ((tw3 r.tw ++ ra7 r).map .t), .cells [.t (vi (r.ready h.toNat).1), .t (vi (r.ready h.toNat).2)]] ∧ s.df = [] ∧ s.k = 0) ?hc ?_ ?_
  case hc => simp only [chop]; rfl
  · unfold tRa at ht ⊢
    unfold tw3 ra7 at ht ⊢
    simp only [List.cons_append, List.nil_append] at ht
    rcases hv with ⟨hok, hm, hh, hT, e⟩ | ⟨e, he, e1, e2⟩
    · rw [e] at ht
      simp only [go_sem, Nat.reduceEqDiff, Nat.reduceAdd]
      repeat' (first
        | refine AndL.mk ?_ ?_
        | refine ACallL.quiet1 hi rfl rfl rfl ?_
        | refine ACallL.quiet1 ht rfl rfl rfl ?_
        | exact ⟨hok, hm, hh, hT⟩
        | simp only [spanE, tS, go_sem, Nat.reduceEqDiff, Nat.reduceAdd, undef, bne_self_eq_false])
    · rw [e1] at ht
      have z1 : (e == 0) = false := beq_false_of_ne he
      have z2 : (e != 0) = true := bne_iff_ne.2 he
      have e3 : specBuy r h many = (0, e) := e2 _ _ _ (Bool.and_comm _ _)
      simp only [go_sem, Nat.reduceEqDiff, Nat.reduceAdd]
      repeat' (first
        | refine AndL.mk ?_ ?_
        | refine ACallL.quiet1 hi rfl rfl rfl ?_
        | refine ACallL.quiet1 ht rfl rfl rfl ?_
        | exact finL_ret [] ⟨rfl, rfl, rfl, rfl, _, rfl, res_mk (by rw [e3]; rfl)⟩
        | simp only [spanE, tS, go_sem, Nat.reduceEqDiff, Nat.reduceAdd, undef, z2])
  rintro ⟨env, σ, df, k⟩ ⟨hok, hm, hh, hT, q2, q8, hσ, hdf, hk⟩
  simp only at q2 q8 hσ hdf hk
  subst hσ hdf hk
  have hr := (r.ok_iff).1 hok
  have hm2 : isMany many = true := hm
  have hs : specBuy r h many = (if many = 0 then 0 else max 0 (many - (r.ready h.toNat).1), 0) := by unfold specBuy ans; rw [hok, hh, hm2, hT]; rfl
  have bd := r.ready_bd hr hT h.toNat
  have hmm := of_decide_eq_true hm
  generalize r.ready h.toNat = X at *
  obtain ⟨lo, hi⟩ := X
  simp only at bd hs
  obtain ⟨N, hN, hN2⟩ : ∃ N : Nat, (if many = 0 then 0 else max 0 (many - lo)) = (N : Int) ∧ N ≤ 108 := by
    split
    · exact ⟨0, rfl, by omega⟩
    · exact ⟨(max 0 (many - lo)).toNat, by omega, by omega⟩
  rw [hN] at hs
  have hiff : ∀ k : Nat, k ≤ N → (max 0 (lo + k) < many ↔ k < N) := by
    intro k hk
    split at hN <;> omega
  simp only [go_sem]
  refine awpL_loopK N (fun k s => s = { env := [(10, .t (vi k)), (2, .t (vi many)), (8, .t (.ptr (.agg [vi lo, vi hi]) 0))], σ := [] })
    ⟨_, Sub.gc [] [10, 2, 8] rfl rfl, ?_⟩ ?_
  · refine St.gc_mk ?_ rfl rfl rfl
    simp only [go_sem, Nat.reduceEqDiff, List.map_cons, List.map_nil, q2, q8]
    rfl
  rintro k s hk rfl
  have w1 : IntKind.i64.wrap (lo + (k : Int)) = lo + k := wrap_id (by omega) (by omega)
  have w2 : IntKind.i64.wrap ((k : Int) + 1) = ((k + 1 : Nat) : Int) := by rw [wrap_id (by omega) (by omega)]; omega
  have hk2 := hiff k hk
  cases c : decide (max 0 (lo + (k : Int)) < many)
  · have d := of_decide_eq_false c
    have he : k = N := by omega
    subst he
    simp only [go_sem, Nat.reduceEqDiff, w1, c]
    exact finL_ret [] ⟨rfl, rfl, rfl, rfl, _, rfl, res_mk (by rw [hs]; rfl)⟩
  · have d := of_decide_eq_true c
    simp only [go_sem, Nat.reduceEqDiff, w1, w2, c]
    exact ⟨by omega, _, Sub.gc [] [10, 2, 8] rfl rfl, St.gc_mk rfl rfl rfl rfl⟩

set_option maxRecDepth 8000 in
set_option maxHeartbeats 4000000 in
theorem qWhen_ok (r : Ra) (many : Int) (hL : r.lines.length < 9223372036854775808) : ACall Tryz.prog 11 [.t (tRa r), .t (vi many)] [] (res (oneE (specWhen r many).1 (specWhen r many).2)) := by
  have hi := qin_ok many 0 60
  have ht := qtold_ok r (wI many 0 60) 0 hL
  have hv := toldR_val r (wI many 0 60) 0
  have hq0 := fun hr n hn => qready_ok r hr n hn
  refine ACall.walk k11 ?_
  unfold c11
  refine awpL_chop 3 (c1 := ?a1) (c2 := ?a2) (fun s => r.ok = true ∧ wI many 0 60 = true ∧ isT r.tw = true ∧ lk s.env 1 = .t (vi many) ∧ lk s.env 2 = .ptr 0 0 ∧ s.σ = [.cells ((tw3 r.tw ++ ra7 r).map .t), .cells [.t (vi (r.ready 0).1), .t (vi (r.ready 0).2)]] ∧ s.df = [] ∧ s.k = 0) ?hc ?_ ?_
  case hc => simp only [chop]; rfl
  · unfold tRa at ht ⊢
    unfold tw3 ra7 at ht ⊢
    simp only [List.cons_append, List.nil_append] at ht
    rcases hv with ⟨hok, hm, hh, hT, e⟩ | ⟨e, he, e1, e2⟩
    · rw [e] at ht
      simp only [go_sem, Nat.reduceEqDiff, Nat.reduceAdd]
      repeat' (first
        | refine AndL.mk ?_ ?_
        | refine ACallL.quiet1 hi rfl rfl rfl ?_
        | refine ACallL.quiet1 ht rfl rfl rfl ?_
        | exact ⟨hok, hm, hT⟩
        | simp only [spanE, tS, go_sem, Nat.reduceEqDiff, Nat.reduceAdd, undef, bne_self_eq_false])
    · rw [e1] at ht
      have z1 : (e == 0) = false := beq_false_of_ne he
      have z2 : (e != 0) = true := bne_iff_ne.2 he
      have e3 : specWhen r many = (0, e) := by
        cases hok : r.ok
        · have := e2 (wI many 0 60 && r.isH 0) (0 : Int) (0, 0) rfl
          unfold specWhen ans at *
          rw [hok] at this ⊢
          exact this
        · have h0 : r.isH 0 = true := isH_in ((r.ok_iff).1 hok) (Nat.zero_le _)
          exact e2 _ _ _ (by rw [h0, Bool.and_true]; rfl)
      simp only [go_sem, Nat.reduceEqDiff, Nat.reduceAdd]
      repeat' (first
        | refine AndL.mk ?_ ?_
        | refine ACallL.quiet1 hi rfl rfl rfl ?_
        | refine ACallL.quiet1 ht rfl rfl rfl ?_
        | exact finL_ret [] ⟨rfl, rfl, rfl, rfl, _, rfl, res_mk (by rw [e3]; rfl)⟩
        | simp only [spanE, tS, go_sem, Nat.reduceEqDiff, Nat.reduceAdd, undef, z2])
  rintro ⟨env, σ, df, k⟩ ⟨hok, hm, hT, q1, q2, hσ, hdf, hk⟩
  simp only at q1 q2 hσ hdf hk
  subst hσ hdf hk
  have hr := (r.ok_iff).1 hok
  obtain ⟨g1, g2, g3⟩ := hr.H
  have hm2 : isMany many = true := hm
  have hs : specWhen r many = (match r.when many with | some h => (((h : Nat) : Int), 0) | none => (0, 4)) := by unfold specWhen ans; rw [hok, hm2, hT]; rfl
  have hq : ∀ n, n ≤ r.H → ACall Tryz.prog 40 [.t (tRa r), .t (vi n)] [] (res (.ret (.tup [.t (.agg [vi (r.ready n).1, vi (r.ready n).2]), .t (vi 0)]))) := fun n hn => by
    have := hq0 hr n hn
    unfold rdyE at this
    rw [hT] at this
    exact this
  clear hq0
  have hmono : ∀ {a b : Nat}, a ≤ b → many ≤ max 0 (r.ready a).1 → many ≤ max 0 (r.ready b).1 := fun {a b} hab h => by
    have := (r.ready_mono hr hab).1
    omega
  unfold tRa at hq
  unfold tw3 ra7 at hq ⊢
  simp only [List.cons_append, List.nil_append] at hq
  simp only [go_sem]
  refine awpL_loopK (r.H + 1) (fun h s => (∀ x, x < h → ¬ many ≤ max 0 (r.ready x).1) ∧ s = { env := [(8, .t (vi h)), (1, .t (vi many)), (2, .t (.ptr (tRa r) 0))], σ := [] })
    ⟨_, Sub.gc [] [8, 1, 2] rfl rfl, fun x hx => by omega, ?_⟩ ?_
  · refine St.gc_mk ?_ rfl rfl rfl
    simp only [go_sem, Nat.reduceEqDiff, List.map_cons, List.map_nil, q1, q2]
    rfl
  rintro h s hh ⟨hno, rfl⟩
  unfold tRa tw3 ra7
  have w1 : IntKind.i64.wrap ((h : Int) + 1) = ((h + 1 : Nat) : Int) := by rw [wrap_id (by omega) (by omega)]; omega
  cases g : decide ((h : Int) ≤ r.hours)
  · have he : h = r.H + 1 := by have := of_decide_eq_false g; omega
    simp only [go_sem, Nat.reduceEqDiff, Nat.reduceAdd, g]
    refine finL_ret [] ⟨rfl, rfl, rfl, rfl, _, rfl, res_mk ?_⟩
    rw [hs]
    cases hw : r.when many with
    | none => rfl
    | some x =>
      have hx := (Ra.when_some hr hw (h := x))
      have hxH : x ≤ r.H := by
        unfold Ra.when at hw
        have := List.mem_of_find?_eq_some hw
        exact (mem_hoursL.1 this).2
      exact absurd ((hx hxH).2 (Nat.le_refl _)) (hno x (by omega))
  have hhH : h ≤ r.H := by have := of_decide_eq_true g; omega
  simp only [go_sem, Nat.reduceEqDiff, Nat.reduceAdd, g]
  refine awpL_loopK (r.H + 1 - h) (fun k s => s = { env := [(10, .t (vi (h + k : Nat))), (9, .t (vb (decide (k = 0) || decide (many ≤ max 0 (r.ready h).1)))), (8, .t (vi h)), (1, .t (vi many)), (2, .t (.ptr (tRa r) 0))], σ := [] })
    ⟨_, Sub.gc [] [10, 9, 8, 1, 2] rfl rfl, St.gc_mk rfl rfl rfl rfl⟩ ?_
  rintro k s hk rfl
  unfold tRa tw3 ra7
  have w2 : IntKind.i64.wrap (((h + k : Nat) : Int) + 1) = ((h + (k + 1) : Nat) : Int) := by rw [wrap_id (by omega) (by omega)]; omega
  cases c : decide (((h + k : Nat) : Int) ≤ r.hours)
  · have hk1 : k = r.H + 1 - h := by have := of_decide_eq_false c; omega
    have hk0 : decide (k = 0) = false := decide_eq_false (by omega)
    rw [hk0, Bool.false_or]
    cases d : decide (many ≤ max 0 (r.ready h).1)
    · simp only [go_sem, Nat.reduceEqDiff, Nat.reduceAdd, c, w1]
      refine ⟨by omega, _, Sub.gc [] [8, 1, 2] rfl rfl, fun x hx => ?_, St.gc_mk rfl rfl rfl rfl⟩
      by_cases e : x = h
      · subst e; exact of_decide_eq_false d
      · exact hno x (by omega)
    · simp only [go_sem, Nat.reduceEqDiff, Nat.reduceAdd, c]
      refine finL_ret [] ⟨rfl, rfl, rfl, rfl, _, rfl, res_mk ?_⟩
      rw [hs]
      have hd := of_decide_eq_true d
      cases hw : r.when many with
      | none => exact absurd hd (Ra.when_none hw hhH)
      | some x =>
        have hx := (Ra.when_some hr hw hhH).1 hd
        have hxx := (Ra.when_some hr hw (h := x) (by omega)).2 (Nat.le_refl _)
        have : x = h := by
          by_cases e : x < h
          · exact absurd hxx (hno x e)
          · omega
        subst this
        rfl
  have hkl : k < r.H + 1 - h := by have := of_decide_eq_true c; omega
  have hqq := hq (h + k) (by omega)
  have hD : decide (max 0 (r.ready (h + k)).1 ≥ many) = decide (many ≤ max 0 (r.ready (h + k)).1) := rfl
  have hfin : ((decide (k = 0) || decide (many ≤ max 0 (r.ready h).1)) && decide (many ≤ max 0 (r.ready (h + k)).1)) = (decide (k + 1 = 0) || decide (many ≤ max 0 (r.ready h).1)) := by
    have e0 : decide (k + 1 = 0) = false := decide_eq_false (by omega)
    rw [e0, Bool.false_or]
    by_cases e : k = 0
    · subst e
      rw [decide_eq_true (rfl : 0 = 0), Bool.true_or, Bool.true_and, Nat.add_zero]
    · rw [decide_eq_false e, Bool.false_or]
      by_cases hd : many ≤ max 0 (r.ready h).1
      · rw [decide_eq_true hd, decide_eq_true (hmono (by omega) hd)]; rfl
      · rw [decide_eq_false hd, Bool.false_and]
  rw [← hfin]
  generalize r.ready (h + k) = X at *
  obtain ⟨lo, hi⟩ := X
  generalize (decide (k = 0) || decide (many ≤ max 0 (r.ready h).1)) = b at *
  simp only [go_sem, Nat.reduceEqDiff, Nat.reduceAdd, c]
  refine ACallL.quiet1 hqq rfl rfl rfl ?_
  cases b
  · simp only [go_sem, Nat.reduceEqDiff, Nat.reduceAdd, undef, Bool.false_and, w2, Bool.false_and]
    exact ⟨hkl, _, Sub.gc [] [10, 9, 8, 1, 2] rfl rfl, St.gc_mk rfl rfl rfl rfl⟩
  · simp only [go_sem, Nat.reduceEqDiff, Nat.reduceAdd, Nat.reduceLeDiff, undef, beq_self_eq_true, Bool.true_and, w2, Bool.true_and]
    exact ⟨hkl, _, Sub.gc [] [10, 9, 8, 1, 2] rfl rfl, St.gc_mk rfl rfl rfl rfl⟩
end Go.Proofs.YtcpkkjbkbdmopaaGreat
