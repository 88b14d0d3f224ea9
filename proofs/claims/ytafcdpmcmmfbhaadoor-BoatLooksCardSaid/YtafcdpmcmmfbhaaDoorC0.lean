/- Proved here: laws that the statements need (BoC2). No conditions but those that each law states. -/
import Derived.Test.YtafcdpmcmmfbhaaDoorFL
import Derived.Test.YtafcdpmcmmfbhaaDoorProg

set_option linter.unusedSimpArgs false
set_option linter.unusedVariables false

/- Compiled code of functions, printed by program; each is checked to be the program's. No conditions. -/
namespace Go.Proofs.YtafcdpmcmmfbhaaDoor
open Go Go.Ab
/-- dipworks/dipworksref12.Can -/
def c17 : AC :=
 .seq (.reg [⟨(some 3), none, .box (.tmp 0)⟩,
 ⟨(some 6), none, .mov (.lit (.int .i64 0))⟩,
 ⟨(some 7), none, .mov (.lit (.int .i64 0))⟩])
 (.seq (.reg [⟨(some 13), none, .load true 5 (.tmp 3)⟩,
 ⟨(some 14), none, .mov (.tmp 1)⟩,
 ⟨(some 15), none, .mov (.tmp 2)⟩,
 ⟨(some 16), none, .call (.fn 53) [(.tmp 13), (.tmp 14), (.tmp 15), (.lit (.bool true))]⟩,
 ⟨(some 12), none, .mov (.tmp 16)⟩,
 ⟨(some 17), none, .ext (.tmp 12) 0⟩,
 ⟨(some 18), none, .ext (.tmp 12) 1⟩,
 ⟨(some 8), none, .mov (.tmp 17)⟩,
 ⟨(some 9), none, .mov (.tmp 18)⟩])
 (.seq (.reg [⟨(some 10), none, .mov (.lit (.int .i64 0))⟩])
 (.seq (.seq (.reg [⟨(some 11), none, .mov (.lit (.int .i64 0))⟩])
 (.block 0 (.loop (.seq (.seq (.reg [⟨(some 19), none, .mov (.tmp 11)⟩,
 ⟨(some 20), none, .mov (.tmp 8)⟩,
 ⟨(some 21), none, .len (.tmp 20)⟩,
 ⟨(some 22), none, .bin .lss (.tmp 19) (.tmp 21)⟩])
 (.cond (.tmp 22) (.skip)
 (.exit 0)))
 (.seq (.block 1 (.reg [⟨(some 25), none, .mov (.tmp 10)⟩,
 ⟨(some 26), none, .mov (.tmp 8)⟩,
 ⟨(some 27), none, .mov (.tmp 11)⟩,
 ⟨(some 28), none, .iaddr 1 (.tmp 26) (.tmp 27)⟩,
 ⟨(some 29), none, .load false 1 (.tmp 28)⟩,
 ⟨(some 30), none, .call (.fn 54) [(.tmp 29)]⟩,
 ⟨(some 31), none, .bin .add (.tmp 25) (.tmp 30)⟩,
 ⟨(some 10), none, .mov (.tmp 31)⟩]))
 (.reg [⟨(some 23), none, .mov (.tmp 11)⟩,
 ⟨(some 24), none, .bin .add (.tmp 23) (.lit (.int .i64 1))⟩,
 ⟨(some 11), none, .mov (.tmp 24)⟩]))))))
 (.seq (.reg [⟨(some 32), none, .mov (.tmp 10)⟩,
 ⟨(some 33), none, .mov (.tmp 9)⟩,
 ⟨(some 6), none, .mov (.tmp 32)⟩,
 ⟨(some 7), none, .mov (.tmp 33)⟩])
 (.ret)))))
theorem k17 : FnC Tryd.prog 17 34 [] [] [.tmp 6, .tmp 7] c17 3 := ⟨Tryd.f17, _, Tryd.func17, rfl, by decide, rfl, by decide, by kernel_rfl, by kernel_rfl⟩
/-- dipworks/dipworksref12.Rows -/
def c19 : AC :=
 .seq (.reg [⟨(some 3), none, .box (.tmp 0)⟩,
 ⟨(some 6), none, .alloc [(.int .i64 0), (.int .i64 0)]⟩,
 ⟨(some 7), none, .mov (.lit (.int .i64 0))⟩])
 (.seq (.reg [⟨(some 13), none, .load true 5 (.tmp 3)⟩,
 ⟨(some 14), none, .mov (.tmp 1)⟩,
 ⟨(some 15), none, .mov (.tmp 2)⟩,
 ⟨(some 16), none, .call (.fn 53) [(.tmp 13), (.tmp 14), (.tmp 15), (.lit (.bool true))]⟩,
 ⟨(some 12), none, .mov (.tmp 16)⟩,
 ⟨(some 17), none, .ext (.tmp 12) 0⟩,
 ⟨(some 18), none, .ext (.tmp 12) 1⟩,
 ⟨(some 8), none, .mov (.tmp 17)⟩,
 ⟨(some 9), none, .mov (.tmp 18)⟩])
 (.seq (.seq (.reg [⟨(some 19), none, .mov (.tmp 9)⟩,
 ⟨(some 20), none, .bin .neq (.tmp 19) (.lit (.int .i64 0))⟩])
 (.cond (.tmp 20) (.seq (.reg [⟨(some 21), none, .build [(.int .i64 0), (.int .i64 0)] []⟩,
 ⟨(some 22), none, .mov (.tmp 9)⟩,
 ⟨none, none, .store 2 (.tmp 6) (.tmp 21)⟩,
 ⟨(some 7), none, .mov (.tmp 22)⟩])
 (.ret))
 (.skip)))
 (.seq (.draw (.step ⟨(some 23), none, .mov (.tmp 8)⟩ (
 .step ⟨(some 24), none, .iaddr 1 (.tmp 23) (.lit (.int .i64 0))⟩ (
 .step ⟨(some 25), none, .load false 1 (.tmp 24)⟩ (
 .step ⟨(some 26), none, .faddr 0 (.tmp 3)⟩ (
 .step ⟨(some 27), none, .load false 1 (.tmp 26)⟩ (
 .step ⟨(some 28), none, .bin .quo (.tmp 25) (.tmp 27)⟩ (
 .step ⟨(some 29), none, .mov (.tmp 8)⟩ (
 .step ⟨(some 30), none, .iaddr 1 (.tmp 29) (.lit (.int .i64 0))⟩ (
 .step ⟨(some 31), none, .load false 1 (.tmp 30)⟩ (
 .step ⟨(some 32), none, .faddr 0 (.tmp 3)⟩ (
 .step ⟨(some 33), none, .load false 1 (.tmp 32)⟩ (
 .step ⟨(some 34), none, .bin .quo (.tmp 31) (.tmp 33)⟩ (
 .step ⟨(some 35), none, .build [(.int .i64 0), (.int .i64 0)] [(0, 1, (.tmp 28)), (1, 1, (.tmp 34))]⟩ (
 .ev ⟨(some 10), none, .alloc [(.int .i64 0), (.int .i64 0)]⟩ [⟨(some 33), none, .load false 1 (.tmp 32)⟩, ⟨(some 32), none, .faddr 0 (.tmp 3)⟩, ⟨(some 31), none, .load false 1 (.tmp 30)⟩, ⟨(some 30), none, .iaddr 1 (.tmp 29) (.lit (.int .i64 0))⟩, ⟨(some 27), none, .load false 1 (.tmp 26)⟩, ⟨(some 26), none, .faddr 0 (.tmp 3)⟩, ⟨(some 25), none, .load false 1 (.tmp 24)⟩, ⟨(some 24), none, .iaddr 1 (.tmp 23) (.lit (.int .i64 0))⟩] (
 .ev ⟨none, none, .store 2 (.tmp 10) (.tmp 35)⟩ [] (
 .done)
 (.stop))
 (.stop))))))))))))))))
 (.seq (.seq (.reg [⟨(some 11), none, .mov (.lit (.int .i64 0))⟩])
 (.block 0 (.loop (.seq (.seq (.reg [⟨(some 36), none, .mov (.tmp 11)⟩,
 ⟨(some 37), none, .mov (.tmp 8)⟩,
 ⟨(some 38), none, .len (.tmp 37)⟩,
 ⟨(some 39), none, .bin .lss (.tmp 36) (.tmp 38)⟩])
 (.cond (.tmp 39) (.skip)
 (.exit 0)))
 (.seq (.block 1 (.draw (.step ⟨(some 42), none, .faddr 0 (.tmp 10)⟩ (
 .step ⟨(some 43), none, .load false 1 (.tmp 42)⟩ (
 .step ⟨(some 44), none, .mov (.tmp 8)⟩ (
 .step ⟨(some 45), none, .mov (.tmp 11)⟩ (
 .step ⟨(some 46), none, .iaddr 1 (.tmp 44) (.tmp 45)⟩ (
 .step ⟨(some 47), none, .load false 1 (.tmp 46)⟩ (
 .step ⟨(some 48), none, .faddr 0 (.tmp 3)⟩ (
 .step ⟨(some 49), none, .load false 1 (.tmp 48)⟩ (
 .step ⟨(some 50), none, .bin .quo (.tmp 47) (.tmp 49)⟩ (
 .step ⟨(some 51), none, .mxmn false (.tmp 43) [(.tmp 50)]⟩ (
 .step ⟨(some 52), none, .faddr 1 (.tmp 10)⟩ (
 .step ⟨(some 53), none, .load false 1 (.tmp 52)⟩ (
 .step ⟨(some 54), none, .mov (.tmp 8)⟩ (
 .step ⟨(some 55), none, .mov (.tmp 11)⟩ (
 .step ⟨(some 56), none, .iaddr 1 (.tmp 54) (.tmp 55)⟩ (
 .step ⟨(some 57), none, .load false 1 (.tmp 56)⟩ (
 .step ⟨(some 58), none, .faddr 0 (.tmp 3)⟩ (
 .step ⟨(some 59), none, .load false 1 (.tmp 58)⟩ (
 .step ⟨(some 60), none, .bin .quo (.tmp 57) (.tmp 59)⟩ (
 .step ⟨(some 61), none, .mxmn true (.tmp 53) [(.tmp 60)]⟩ (
 .step ⟨(some 62), none, .build [(.int .i64 0), (.int .i64 0)] [(0, 1, (.tmp 51)), (1, 1, (.tmp 61))]⟩ (
 .ev ⟨none, none, .store 2 (.tmp 10) (.tmp 62)⟩ [] (
 .done)
 (.stop)))))))))))))))))))))))))
 (.reg [⟨(some 40), none, .mov (.tmp 11)⟩,
 ⟨(some 41), none, .bin .add (.tmp 40) (.lit (.int .i64 1))⟩,
 ⟨(some 11), none, .mov (.tmp 41)⟩]))))))
 (.seq (.reg [⟨(some 63), none, .load true 2 (.tmp 10)⟩,
 ⟨none, none, .store 2 (.tmp 6) (.tmp 63)⟩,
 ⟨(some 7), none, .mov (.lit (.int .i64 0))⟩])
 (.ret))))))
theorem k19 : FnC Tryd.prog 19 64 [6] [] [.cell 6 true 2, .tmp 7] c19 3 := ⟨Tryd.f19, _, Tryd.func19, rfl, by decide, rfl, by decide, by kernel_rfl, by kernel_rfl⟩
/-- dipworks/dipworksref12.Nearest -/
def c21 : AC :=
 .seq (.reg [⟨(some 2), none, .box (.tmp 0)⟩,
 ⟨(some 4), none, .alloc [(.int .i64 0), (.int .i64 0)]⟩,
 ⟨(some 5), none, .mov (.lit (.int .i64 0))⟩])
 (.seq (.reg [⟨(some 14), none, .load true 5 (.tmp 2)⟩,
 ⟨(some 15), none, .mov (.tmp 1)⟩,
 ⟨(some 16), none, .call (.fn 53) [(.tmp 14), (.tmp 15), (.lit (.int .i64 0)), (.lit (.bool true))]⟩,
 ⟨(some 13), none, .mov (.tmp 16)⟩,
 ⟨(some 17), none, .ext (.tmp 13) 0⟩,
 ⟨(some 18), none, .ext (.tmp 13) 1⟩,
 ⟨(some 6), none, .mov (.tmp 17)⟩,
 ⟨(some 7), none, .mov (.tmp 18)⟩])
 (.seq (.seq (.reg [⟨(some 19), none, .mov (.tmp 7)⟩,
 ⟨(some 20), none, .bin .neq (.tmp 19) (.lit (.int .i64 0))⟩])
 (.cond (.tmp 20) (.seq (.reg [⟨(some 21), none, .build [(.int .i64 0), (.int .i64 0)] []⟩,
 ⟨(some 22), none, .mov (.tmp 7)⟩,
 ⟨none, none, .store 2 (.tmp 4) (.tmp 21)⟩,
 ⟨(some 5), none, .mov (.tmp 22)⟩])
 (.ret))
 (.skip)))
 (.seq (.reg [⟨(some 23), none, .faddr 1 (.tmp 2)⟩,
 ⟨(some 24), none, .load false 1 (.tmp 23)⟩,
 ⟨(some 25), none, .build [(.int .i64 0), (.int .i64 0)] [(0, 1, (.tmp 24)), (1, 1, (.lit (.int .i64 0)))]⟩,
 ⟨(some 8), none, .alloc [(.int .i64 0), (.int .i64 0)]⟩,
 ⟨none, none, .store 2 (.tmp 8) (.tmp 25)⟩])
 (.seq (.seq (.reg [⟨(some 9), none, .mov (.lit (.int .i64 0))⟩])
 (.block 0 (.loop (.seq (.seq (.reg [⟨(some 26), none, .mov (.tmp 9)⟩,
 ⟨(some 27), none, .faddr 3 (.tmp 2)⟩,
 ⟨(some 28), none, .load false 1 (.tmp 27)⟩,
 ⟨(some 29), none, .bin .leq (.tmp 26) (.tmp 28)⟩])
 (.cond (.tmp 29) (.skip)
 (.exit 0)))
 (.seq (.block 1 (.seq (.reg [⟨(some 33), none, .load true 5 (.tmp 2)⟩,
 ⟨(some 34), none, .mov (.tmp 1)⟩,
 ⟨(some 35), none, .mov (.tmp 9)⟩,
 ⟨(some 36), none, .call (.fn 19) [(.tmp 33), (.tmp 34), (.tmp 35)]⟩,
 ⟨(some 32), none, .mov (.tmp 36)⟩,
 ⟨(some 37), none, .ext (.tmp 32) 0⟩,
 ⟨(some 38), none, .ext (.tmp 32) 1⟩,
 ⟨(some 10), none, .alloc [(.int .i64 0), (.int .i64 0)]⟩,
 ⟨none, none, .store 2 (.tmp 10) (.tmp 37)⟩,
 ⟨(some 11), none, .mov (.tmp 38)⟩])
 (.reg [⟨(some 39), none, .faddr 0 (.tmp 8)⟩,
 ⟨(some 40), none, .load false 1 (.tmp 39)⟩,
 ⟨(some 41), none, .faddr 0 (.tmp 10)⟩,
 ⟨(some 42), none, .load false 1 (.tmp 41)⟩,
 ⟨(some 43), none, .mxmn false (.tmp 40) [(.tmp 42)]⟩,
 ⟨(some 44), none, .faddr 0 (.tmp 8)⟩,
 ⟨none, none, .store 1 (.tmp 44) (.tmp 43)⟩])))
 (.reg [⟨(some 30), none, .mov (.tmp 9)⟩,
 ⟨(some 31), none, .bin .add (.tmp 30) (.lit (.int .i64 1))⟩,
 ⟨(some 9), none, .mov (.tmp 31)⟩]))))))
 (.seq (.seq (.reg [⟨(some 12), none, .mov (.lit (.int .i64 0))⟩])
 (.block 2 (.loop (.seq (.seq (.reg [⟨(some 45), none, .mov (.tmp 12)⟩,
 ⟨(some 46), none, .faddr 1 (.tmp 2)⟩,
 ⟨(some 47), none, .load false 1 (.tmp 46)⟩,
 ⟨(some 48), none, .bin .lss (.tmp 45) (.tmp 47)⟩])
 (.cond (.tmp 48) (.skip)
 (.exit 2)))
 (.seq (.block 3 (.seq (.draw (.step ⟨(some 51), none, .load true 5 (.tmp 2)⟩ (
 .step ⟨(some 52), none, .faddr 4 (.tmp 2)⟩ (
 .step ⟨(some 53), none, .load false 1 (.tmp 52)⟩ (
 .step ⟨(some 54), none, .mov (.tmp 1)⟩ (
 .step ⟨(some 55), none, .iaddr 1 (.tmp 53) (.tmp 54)⟩ (
 .step ⟨(some 56), none, .load false 1 (.tmp 55)⟩ (
 .step ⟨(some 57), none, .mov (.tmp 12)⟩ (
 .ev ⟨(some 58), none, .call (.fn 57) [(.tmp 51), (.tmp 56), (.lit (.int .i64 0)), (.tmp 57)]⟩ [⟨(some 55), none, .iaddr 1 (.tmp 53) (.tmp 54)⟩, ⟨(some 53), none, .load false 1 (.tmp 52)⟩, ⟨(some 52), none, .faddr 4 (.tmp 2)⟩] (
 .step ⟨(some 59), none, .len (.tmp 58)⟩ (
 .step ⟨(some 60), none, .bin .gtr (.tmp 59) (.lit (.int .i64 0))⟩ (
 .done)))
 (.stop))))))))))
 (.cond (.tmp 60) (.reg [⟨(some 61), none, .mov (.tmp 12)⟩,
 ⟨(some 62), none, .faddr 1 (.tmp 8)⟩,
 ⟨none, none, .store 1 (.tmp 62) (.tmp 61)⟩])
 (.skip))))
 (.reg [⟨(some 49), none, .mov (.tmp 12)⟩,
 ⟨(some 50), none, .bin .add (.tmp 49) (.lit (.int .i64 1))⟩,
 ⟨(some 12), none, .mov (.tmp 50)⟩]))))))
 (.seq (.reg [⟨(some 63), none, .load true 2 (.tmp 8)⟩,
 ⟨none, none, .store 2 (.tmp 4) (.tmp 63)⟩,
 ⟨(some 5), none, .mov (.lit (.int .i64 0))⟩])
 (.ret)))))))
theorem k21 : FnC Tryd.prog 21 64 [4] [] [.cell 4 true 2, .tmp 5] c21 2 := ⟨Tryd.f21, _, Tryd.func21, rfl, by decide, rfl, by decide, by kernel_rfl, by kernel_rfl⟩
/-- dipworks/dipworksref12.Broke -/
def c23 : AC :=
 .seq (.reg [⟨(some 3), none, .box (.tmp 0)⟩,
 ⟨(some 6), none, .mov (.lit (.int .i64 0))⟩,
 ⟨(some 7), none, .mov (.lit (.int .i64 0))⟩])
 (.seq (.draw (.step ⟨(some 13), none, .load true 5 (.tmp 3)⟩ (
 .step ⟨(some 14), none, .mov (.tmp 1)⟩ (
 .step ⟨(some 15), none, .mov (.tmp 2)⟩ (
 .step ⟨(some 16), none, .faddr 1 (.tmp 3)⟩ (
 .step ⟨(some 17), none, .load false 1 (.tmp 16)⟩ (
 .ev ⟨(some 18), none, .call (.fn 59) [(.tmp 15), (.lit (.int .i64 0)), (.tmp 17)]⟩ [⟨(some 16), none, .faddr 1 (.tmp 3)⟩, ⟨(some 13), none, .load true 5 (.tmp 3)⟩] (
 .ev ⟨(some 19), none, .call (.fn 53) [(.tmp 13), (.tmp 14), (.lit (.int .i64 0)), (.tmp 18)]⟩ [⟨(some 17), none, .load false 1 (.tmp 16)⟩, ⟨(some 16), none, .faddr 1 (.tmp 3)⟩] (
 .step ⟨(some 12), none, .mov (.tmp 19)⟩ (
 .step ⟨(some 20), none, .ext (.tmp 12) 0⟩ (
 .step ⟨(some 21), none, .ext (.tmp 12) 1⟩ (
 .step ⟨(some 8), none, .mov (.tmp 20)⟩ (
 .step ⟨(some 9), none, .mov (.tmp 21)⟩ (
 .done))))))
 (.stop))
 (.stop))))))))
 (.seq (.seq (.reg [⟨(some 22), none, .mov (.tmp 9)⟩,
 ⟨(some 23), none, .bin .neq (.tmp 22) (.lit (.int .i64 0))⟩])
 (.cond (.tmp 23) (.seq (.reg [⟨(some 24), none, .mov (.tmp 9)⟩,
 ⟨(some 6), none, .mov (.lit (.int .i64 0))⟩,
 ⟨(some 7), none, .mov (.tmp 24)⟩])
 (.ret))
 (.skip)))
 (.seq (.reg [⟨(some 26), none, .load true 5 (.tmp 3)⟩,
 ⟨(some 27), none, .mov (.tmp 1)⟩,
 ⟨(some 28), none, .call (.fn 21) [(.tmp 26), (.tmp 27)]⟩,
 ⟨(some 25), none, .mov (.tmp 28)⟩,
 ⟨(some 29), none, .ext (.tmp 25) 0⟩,
 ⟨(some 30), none, .ext (.tmp 25) 1⟩,
 ⟨(some 10), none, .alloc [(.int .i64 0), (.int .i64 0)]⟩,
 ⟨none, none, .store 2 (.tmp 10) (.tmp 29)⟩,
 ⟨(some 11), none, .mov (.tmp 30)⟩])
 (.seq (.seq (.reg [⟨(some 31), none, .faddr 1 (.tmp 10)⟩,
 ⟨(some 32), none, .load false 1 (.tmp 31)⟩,
 ⟨(some 33), none, .mov (.tmp 2)⟩,
 ⟨(some 34), none, .bin .lss (.tmp 32) (.tmp 33)⟩])
 (.cond (.tmp 34) (.seq (.reg [⟨(some 6), none, .mov (.lit (.int .i64 2))⟩,
 ⟨(some 7), none, .mov (.lit (.int .i64 0))⟩])
 (.ret))
 (.skip)))
 (.seq (.seq (.reg [⟨(some 35), none, .faddr 0 (.tmp 10)⟩,
 ⟨(some 36), none, .load false 1 (.tmp 35)⟩,
 ⟨(some 37), none, .mov (.tmp 2)⟩,
 ⟨(some 38), none, .bin .geq (.tmp 36) (.tmp 37)⟩])
 (.cond (.tmp 38) (.seq (.reg [⟨(some 6), none, .mov (.lit (.int .i64 0))⟩,
 ⟨(some 7), none, .mov (.lit (.int .i64 0))⟩])
 (.ret))
 (.skip)))
 (.seq (.reg [⟨(some 6), none, .mov (.lit (.int .i64 1))⟩,
 ⟨(some 7), none, .mov (.lit (.int .i64 0))⟩])
 (.ret)))))))
theorem k23 : FnC Tryd.prog 23 39 [] [] [.tmp 6, .tmp 7] c23 3 := ⟨Tryd.f23, _, Tryd.func23, rfl, by decide, rfl, by decide, by kernel_rfl, by kernel_rfl⟩
/-- dipworks/dipworksref12.Met -/
def c25 : AC :=
 .seq (.reg [⟨(some 3), none, .box (.tmp 0)⟩,
 ⟨(some 6), none, .mov (.lit (.int .i64 0))⟩,
 ⟨(some 7), none, .mov (.lit (.int .i64 0))⟩])
 (.seq (.draw (.step ⟨(some 18), none, .load true 5 (.tmp 3)⟩ (
 .step ⟨(some 19), none, .load true 5 (.tmp 3)⟩ (
 .step ⟨(some 20), none, .mov (.tmp 1)⟩ (
 .ev ⟨(some 21), none, .call (.fn 62) [(.tmp 19), (.tmp 20)]⟩ [⟨(some 18), none, .load true 5 (.tmp 3)⟩] (
 .step ⟨(some 22), none, .mov (.tmp 21)⟩ (
 .step ⟨(some 23), (some (22, true)), .load true 5 (.tmp 3)⟩ (
 .step ⟨(some 24), (some (22, true)), .mov (.tmp 2)⟩ (
 .ev ⟨(some 25), (some (22, true)), .call (.fn 62) [(.tmp 23), (.tmp 24)]⟩ [⟨(some 19), none, .load true 5 (.tmp 3)⟩, ⟨(some 18), none, .load true 5 (.tmp 3)⟩] (
 .step ⟨(some 26), none, .pick (.tmp 22) (.tmp 25) (.lit (.bool false))⟩ (
 .ev ⟨(some 27), none, .call (.fn 61) [(.tmp 18), (.tmp 26)]⟩ [⟨(some 23), (some (22, true)), .load true 5 (.tmp 3)⟩, ⟨(some 19), none, .load true 5 (.tmp 3)⟩] (
 .step ⟨(some 8), none, .mov (.tmp 27)⟩ (
 .done))
 (.stop)))
 (.stop)))))
 (.stop))))))
 (.seq (.seq (.reg [⟨(some 28), none, .mov (.tmp 8)⟩,
 ⟨(some 29), none, .bin .neq (.tmp 28) (.lit (.int .i64 0))⟩])
 (.cond (.tmp 29) (.seq (.reg [⟨(some 30), none, .mov (.tmp 8)⟩,
 ⟨(some 6), none, .mov (.lit (.int .i64 0))⟩,
 ⟨(some 7), none, .mov (.tmp 30)⟩])
 (.ret))
 (.skip)))
 (.seq (.reg [⟨(some 32), none, .load true 5 (.tmp 3)⟩,
 ⟨(some 33), none, .mov (.tmp 1)⟩,
 ⟨(some 34), none, .call (.fn 53) [(.tmp 32), (.tmp 33), (.lit (.int .i64 0)), (.lit (.bool true))]⟩,
 ⟨(some 31), none, .mov (.tmp 34)⟩,
 ⟨(some 35), none, .ext (.tmp 31) 0⟩,
 ⟨(some 36), none, .ext (.tmp 31) 1⟩,
 ⟨(some 9), none, .mov (.tmp 35)⟩,
 ⟨(some 10), none, .mov (.tmp 36)⟩])
 (.seq (.reg [⟨(some 38), none, .load true 5 (.tmp 3)⟩,
 ⟨(some 39), none, .mov (.tmp 2)⟩,
 ⟨(some 40), none, .call (.fn 53) [(.tmp 38), (.tmp 39), (.lit (.int .i64 0)), (.lit (.bool true))]⟩,
 ⟨(some 37), none, .mov (.tmp 40)⟩,
 ⟨(some 41), none, .ext (.tmp 37) 0⟩,
 ⟨(some 42), none, .ext (.tmp 37) 1⟩,
 ⟨(some 11), none, .mov (.tmp 41)⟩,
 ⟨(some 12), none, .mov (.tmp 42)⟩])
 (.seq (.seq (.reg [⟨(some 43), none, .mov (.tmp 10)⟩,
 ⟨(some 44), none, .bin .neq (.tmp 43) (.lit (.int .i64 0))⟩,
 ⟨(some 45), none, .mov (.tmp 44)⟩,
 ⟨(some 46), (some (45, false)), .mov (.tmp 12)⟩,
 ⟨(some 47), (some (45, false)), .bin .neq (.tmp 46) (.lit (.int .i64 0))⟩,
 ⟨(some 48), none, .pick (.tmp 45) (.lit (.bool true)) (.tmp 47)⟩])
 (.cond (.tmp 48) (.seq (.reg [⟨(some 6), none, .mov (.lit (.int .i64 0))⟩,
 ⟨(some 7), none, .mov (.lit (.int .i64 10))⟩])
 (.ret))
 (.skip)))
 (.seq (.seq (.reg [⟨(some 13), none, .mov (.lit (.int .i64 0))⟩])
 (.block 0 (.loop (.seq (.seq (.reg [⟨(some 49), none, .mov (.tmp 13)⟩,
 ⟨(some 50), none, .faddr 3 (.tmp 3)⟩,
 ⟨(some 51), none, .load false 1 (.tmp 50)⟩,
 ⟨(some 52), none, .bin .leq (.tmp 49) (.tmp 51)⟩])
 (.cond (.tmp 52) (.skip)
 (.exit 0)))
 (.seq (.block 1 (.seq (.reg [⟨(some 56), none, .load true 5 (.tmp 3)⟩,
 ⟨(some 57), none, .mov (.tmp 1)⟩,
 ⟨(some 58), none, .mov (.tmp 13)⟩,
 ⟨(some 59), none, .call (.fn 53) [(.tmp 56), (.tmp 57), (.tmp 58), (.lit (.bool true))]⟩,
 ⟨(some 55), none, .mov (.tmp 59)⟩,
 ⟨(some 60), none, .ext (.tmp 55) 0⟩,
 ⟨(some 61), none, .ext (.tmp 55) 1⟩,
 ⟨(some 14), none, .mov (.tmp 60)⟩,
 ⟨(some 15), none, .mov (.tmp 61)⟩])
 (.seq (.reg [⟨(some 63), none, .load true 5 (.tmp 3)⟩,
 ⟨(some 64), none, .mov (.tmp 2)⟩,
 ⟨(some 65), none, .mov (.tmp 13)⟩,
 ⟨(some 66), none, .call (.fn 53) [(.tmp 63), (.tmp 64), (.tmp 65), (.lit (.bool true))]⟩,
 ⟨(some 62), none, .mov (.tmp 66)⟩,
 ⟨(some 67), none, .ext (.tmp 62) 0⟩,
 ⟨(some 68), none, .ext (.tmp 62) 1⟩,
 ⟨(some 16), none, .mov (.tmp 67)⟩,
 ⟨(some 17), none, .mov (.tmp 68)⟩])
 (.seq (.reg [⟨(some 69), none, .load true 5 (.tmp 3)⟩,
 ⟨(some 70), none, .mov (.tmp 14)⟩,
 ⟨(some 71), none, .mov (.tmp 16)⟩,
 ⟨(some 72), none, .call (.fn 63) [(.tmp 69), (.tmp 70), (.tmp 71), (.lit (.int .i64 0))]⟩,
 ⟨(some 73), none, .len (.tmp 72)⟩,
 ⟨(some 74), none, .bin .gtr (.tmp 73) (.lit (.int .i64 0))⟩])
 (.cond (.tmp 74) (.seq (.reg [⟨(some 75), none, .mov (.tmp 13)⟩,
 ⟨(some 6), none, .mov (.tmp 75)⟩,
 ⟨(some 7), none, .mov (.lit (.int .i64 0))⟩])
 (.ret))
 (.skip))))))
 (.reg [⟨(some 53), none, .mov (.tmp 13)⟩,
 ⟨(some 54), none, .bin .add (.tmp 53) (.lit (.int .i64 1))⟩,
 ⟨(some 13), none, .mov (.tmp 54)⟩]))))))
 (.seq (.reg [⟨(some 6), none, .mov (.lit (.int .i64 0))⟩,
 ⟨(some 7), none, .mov (.lit (.int .i64 4))⟩])
 (.ret))))))))
theorem k25 : FnC Tryd.prog 25 76 [] [] [.tmp 6, .tmp 7] c25 3 := ⟨Tryd.f25, _, Tryd.func25, rfl, by decide, rfl, by decide, by kernel_rfl, by kernel_rfl⟩
/-- dipworks/dipworksref12.Who -/
def c27 : AC :=
 .seq (.reg [⟨(some 3), none, .box (.tmp 0)⟩,
 ⟨(some 6), none, .mov (.lit (.int .i64 0))⟩,
 ⟨(some 7), none, .mov (.lit (.int .i64 0))⟩,
 ⟨(some 8), none, .mov (.lit (.int .i64 0))⟩])
 (.seq (.draw (.step ⟨(some 15), none, .load true 5 (.tmp 3)⟩ (
 .step ⟨(some 16), none, .load true 5 (.tmp 3)⟩ (
 .step ⟨(some 17), none, .mov (.tmp 1)⟩ (
 .ev ⟨(some 18), none, .call (.fn 67) [(.tmp 16), (.tmp 17)]⟩ [⟨(some 15), none, .load true 5 (.tmp 3)⟩] (
 .step ⟨(some 19), none, .mov (.tmp 18)⟩ (
 .step ⟨(some 20), (some (19, true)), .load true 5 (.tmp 3)⟩ (
 .step ⟨(some 21), (some (19, true)), .mov (.tmp 2)⟩ (
 .ev ⟨(some 22), (some (19, true)), .call (.fn 68) [(.tmp 20), (.tmp 21)]⟩ [⟨(some 16), none, .load true 5 (.tmp 3)⟩, ⟨(some 15), none, .load true 5 (.tmp 3)⟩] (
 .step ⟨(some 23), none, .pick (.tmp 19) (.tmp 22) (.lit (.bool false))⟩ (
 .ev ⟨(some 24), none, .call (.fn 61) [(.tmp 15), (.tmp 23)]⟩ [⟨(some 20), (some (19, true)), .load true 5 (.tmp 3)⟩, ⟨(some 16), none, .load true 5 (.tmp 3)⟩] (
 .step ⟨(some 9), none, .mov (.tmp 24)⟩ (
 .done))
 (.stop)))
 (.stop)))))
 (.stop))))))
 (.seq (.seq (.reg [⟨(some 25), none, .mov (.tmp 9)⟩,
 ⟨(some 26), none, .bin .neq (.tmp 25) (.lit (.int .i64 0))⟩])
 (.cond (.tmp 26) (.seq (.reg [⟨(some 27), none, .mov (.tmp 9)⟩,
 ⟨(some 6), none, .mov (.lit (.int .i64 0))⟩,
 ⟨(some 7), none, .mov (.lit (.int .i64 0))⟩,
 ⟨(some 8), none, .mov (.tmp 27)⟩])
 (.ret))
 (.skip)))
 (.seq (.reg [⟨(some 10), none, .mov (.lit (.int .i64 0))⟩,
 ⟨(some 11), none, .mov (.lit (.int .i64 0))⟩])
 (.seq (.seq (.reg [⟨(some 12), none, .mov (.lit (.int .i64 0))⟩])
 (.block 0 (.loop (.seq (.seq (.reg [⟨(some 28), none, .mov (.tmp 12)⟩,
 ⟨(some 29), none, .faddr 4 (.tmp 3)⟩,
 ⟨(some 30), none, .load false 1 (.tmp 29)⟩,
 ⟨(some 31), none, .len (.tmp 30)⟩,
 ⟨(some 32), none, .bin .lss (.tmp 28) (.tmp 31)⟩])
 (.cond (.tmp 32) (.skip)
 (.exit 0)))
 (.seq (.block 1 (.seq (.reg [⟨(some 36), none, .load true 5 (.tmp 3)⟩,
 ⟨(some 37), none, .mov (.tmp 12)⟩,
 ⟨(some 38), none, .mov (.tmp 1)⟩,
 ⟨(some 39), none, .call (.fn 53) [(.tmp 36), (.tmp 37), (.tmp 38), (.lit (.bool true))]⟩,
 ⟨(some 35), none, .mov (.tmp 39)⟩,
 ⟨(some 40), none, .ext (.tmp 35) 0⟩,
 ⟨(some 41), none, .ext (.tmp 35) 1⟩,
 ⟨(some 13), none, .mov (.tmp 40)⟩,
 ⟨(some 14), none, .mov (.tmp 41)⟩])
 (.seq (.seq (.reg [⟨(some 42), none, .mov (.tmp 14)⟩,
 ⟨(some 43), none, .bin .neq (.tmp 42) (.lit (.int .i64 0))⟩])
 (.cond (.tmp 43) (.seq (.reg [⟨(some 44), none, .mov (.tmp 14)⟩,
 ⟨(some 6), none, .mov (.lit (.int .i64 0))⟩,
 ⟨(some 7), none, .mov (.lit (.int .i64 0))⟩,
 ⟨(some 8), none, .mov (.tmp 44)⟩])
 (.ret))
 (.skip)))
 (.seq (.reg [⟨(some 45), none, .load true 5 (.tmp 3)⟩,
 ⟨(some 46), none, .mov (.tmp 13)⟩,
 ⟨(some 47), none, .mov (.tmp 2)⟩,
 ⟨(some 48), none, .bslice 1 (.int .i64 0) 1 [(0, (.tmp 47))]⟩,
 ⟨(some 49), none, .call (.fn 63) [(.tmp 45), (.tmp 46), (.tmp 48), (.lit (.int .i64 0))]⟩,
 ⟨(some 50), none, .len (.tmp 49)⟩,
 ⟨(some 51), none, .bin .gtr (.tmp 50) (.lit (.int .i64 0))⟩])
 (.cond (.tmp 51) (.seq (.reg [⟨(some 52), none, .mov (.tmp 11)⟩,
 ⟨(some 53), none, .mov (.tmp 12)⟩,
 ⟨(some 54), none, .call (.fn 54) [(.tmp 53)]⟩,
 ⟨(some 55), none, .bin .add (.tmp 52) (.tmp 54)⟩,
 ⟨(some 11), none, .mov (.tmp 55)⟩])
 (.seq (.reg [⟨(some 56), none, .mov (.tmp 13)⟩,
 ⟨(some 57), none, .len (.tmp 56)⟩,
 ⟨(some 58), none, .bin .eql (.tmp 57) (.lit (.int .i64 1))⟩])
 (.cond (.tmp 58) (.reg [⟨(some 59), none, .mov (.tmp 10)⟩,
 ⟨(some 60), none, .mov (.tmp 12)⟩,
 ⟨(some 61), none, .call (.fn 54) [(.tmp 60)]⟩,
 ⟨(some 62), none, .bin .add (.tmp 59) (.tmp 61)⟩,
 ⟨(some 10), none, .mov (.tmp 62)⟩])
 (.skip))))
 (.skip))))))
 (.reg [⟨(some 33), none, .mov (.tmp 12)⟩,
 ⟨(some 34), none, .bin .add (.tmp 33) (.lit (.int .i64 1))⟩,
 ⟨(some 12), none, .mov (.tmp 34)⟩]))))))
 (.seq (.reg [⟨(some 63), none, .mov (.tmp 10)⟩,
 ⟨(some 64), none, .mov (.tmp 11)⟩,
 ⟨(some 6), none, .mov (.tmp 63)⟩,
 ⟨(some 7), none, .mov (.tmp 64)⟩,
 ⟨(some 8), none, .mov (.lit (.int .i64 0))⟩])
 (.ret))))))
theorem k27 : FnC Tryd.prog 27 65 [] [] [.tmp 6, .tmp 7, .tmp 8] c27 3 := ⟨Tryd.f27, _, Tryd.func27, rfl, by decide, rfl, by decide, by kernel_rfl, by kernel_rfl⟩
/-- dipworks/dipworksref12.Speed -/
def c29 : AC :=
 .seq (.reg [⟨(some 2), none, .box (.tmp 0)⟩,
 ⟨(some 4), none, .mov (.lit (.int .i64 0))⟩,
 ⟨(some 5), none, .mov (.lit (.int .i64 0))⟩])
 (.seq (.draw (.step ⟨(some 9), none, .load true 5 (.tmp 2)⟩ (
 .step ⟨(some 10), none, .load true 5 (.tmp 2)⟩ (
 .step ⟨(some 11), none, .mov (.tmp 1)⟩ (
 .ev ⟨(some 12), none, .call (.fn 62) [(.tmp 10), (.tmp 11)]⟩ [⟨(some 9), none, .load true 5 (.tmp 2)⟩] (
 .ev ⟨(some 13), none, .call (.fn 61) [(.tmp 9), (.tmp 12)]⟩ [⟨(some 10), none, .load true 5 (.tmp 2)⟩] (
 .step ⟨(some 6), none, .mov (.tmp 13)⟩ (
 .done))
 (.stop))
 (.stop))))))
 (.seq (.seq (.reg [⟨(some 14), none, .mov (.tmp 6)⟩,
 ⟨(some 15), none, .bin .neq (.tmp 14) (.lit (.int .i64 0))⟩])
 (.cond (.tmp 15) (.seq (.reg [⟨(some 16), none, .mov (.tmp 6)⟩,
 ⟨(some 4), none, .mov (.lit (.int .i64 0))⟩,
 ⟨(some 5), none, .mov (.tmp 16)⟩])
 (.ret))
 (.skip)))
 (.seq (.reg [⟨(some 17), none, .load true 5 (.tmp 2)⟩,
 ⟨(some 7), none, .alloc [(.int .i64 0), (.int .i64 0), (.int .i64 0), (.int .i64 0), (.slice none 0 0)]⟩,
 ⟨none, none, .store 5 (.tmp 7) (.tmp 17)⟩])
 (.seq (.seq (.reg [⟨(some 8), none, .mov (.lit (.int .i64 0))⟩])
 (.block 0 (.loop (.seq (.seq (.reg [⟨(some 18), none, .mov (.tmp 8)⟩,
 ⟨(some 19), none, .bin .leq (.tmp 18) (.lit (.int .i64 3))⟩])
 (.cond (.tmp 19) (.skip)
 (.exit 0)))
 (.seq (.block 1 (.seq (.reg [⟨(some 22), none, .mov (.tmp 8)⟩,
 ⟨(some 23), none, .faddr 2 (.tmp 7)⟩,
 ⟨none, none, .store 1 (.tmp 23) (.tmp 22)⟩])
 (.seq (.draw (.step ⟨(some 24), none, .load true 5 (.tmp 7)⟩ (
 .step ⟨(some 25), none, .faddr 4 (.tmp 2)⟩ (
 .step ⟨(some 26), none, .load false 1 (.tmp 25)⟩ (
 .step ⟨(some 27), none, .mov (.tmp 1)⟩ (
 .step ⟨(some 28), none, .iaddr 1 (.tmp 26) (.tmp 27)⟩ (
 .step ⟨(some 29), none, .load false 1 (.tmp 28)⟩ (
 .ev ⟨(some 30), none, .call (.fn 57) [(.tmp 24), (.tmp 29), (.lit (.int .i64 0)), (.lit (.int .i64 0))]⟩ [⟨(some 28), none, .iaddr 1 (.tmp 26) (.tmp 27)⟩, ⟨(some 26), none, .load false 1 (.tmp 25)⟩, ⟨(some 25), none, .faddr 4 (.tmp 2)⟩] (
 .step ⟨(some 31), none, .len (.tmp 30)⟩ (
 .step ⟨(some 32), none, .bin .gtr (.tmp 31) (.lit (.int .i64 0))⟩ (
 .done)))
 (.stop)))))))))
 (.cond (.tmp 32) (.seq (.reg [⟨(some 33), none, .mov (.tmp 8)⟩,
 ⟨(some 4), none, .mov (.tmp 33)⟩,
 ⟨(some 5), none, .mov (.lit (.int .i64 0))⟩])
 (.ret))
 (.skip)))))
 (.reg [⟨(some 20), none, .mov (.tmp 8)⟩,
 ⟨(some 21), none, .bin .add (.tmp 20) (.lit (.int .i64 1))⟩,
 ⟨(some 8), none, .mov (.tmp 21)⟩]))))))
 (.seq (.reg [⟨(some 4), none, .mov (.lit (.int .i64 0))⟩,
 ⟨(some 5), none, .mov (.lit (.int .i64 4))⟩])
 (.ret))))))
theorem k29 : FnC Tryd.prog 29 34 [] [] [.tmp 4, .tmp 5] c29 2 := ⟨Tryd.f29, _, Tryd.func29, rfl, by decide, rfl, by decide, by kernel_rfl, by kernel_rfl⟩
/-- dipworks/dipworksref12.Wrong -/
def c31 : AC :=
 .seq (.reg [⟨(some 2), none, .box (.tmp 0)⟩,
 ⟨(some 4), none, .mov (.lit (.int .i64 0))⟩,
 ⟨(some 5), none, .mov (.lit (.int .i64 0))⟩])
 (.seq (.draw (.step ⟨(some 10), none, .load true 5 (.tmp 2)⟩ (
 .step ⟨(some 11), none, .load true 5 (.tmp 2)⟩ (
 .step ⟨(some 12), none, .mov (.tmp 1)⟩ (
 .ev ⟨(some 13), none, .call (.fn 62) [(.tmp 11), (.tmp 12)]⟩ [⟨(some 10), none, .load true 5 (.tmp 2)⟩] (
 .ev ⟨(some 14), none, .call (.fn 61) [(.tmp 10), (.tmp 13)]⟩ [⟨(some 11), none, .load true 5 (.tmp 2)⟩] (
 .step ⟨(some 6), none, .mov (.tmp 14)⟩ (
 .done))
 (.stop))
 (.stop))))))
 (.seq (.seq (.reg [⟨(some 15), none, .mov (.tmp 6)⟩,
 ⟨(some 16), none, .bin .neq (.tmp 15) (.lit (.int .i64 0))⟩])
 (.cond (.tmp 16) (.seq (.reg [⟨(some 17), none, .mov (.tmp 6)⟩,
 ⟨(some 4), none, .mov (.lit (.int .i64 0))⟩,
 ⟨(some 5), none, .mov (.tmp 17)⟩])
 (.ret))
 (.skip)))
 (.seq (.reg [⟨(some 18), none, .faddr 4 (.tmp 2)⟩,
 ⟨(some 19), none, .load false 1 (.tmp 18)⟩,
 ⟨(some 20), none, .mov (.tmp 1)⟩,
 ⟨(some 21), none, .iaddr 1 (.tmp 19) (.tmp 20)⟩,
 ⟨(some 22), none, .load false 1 (.tmp 21)⟩,
 ⟨(some 7), none, .mov (.tmp 22)⟩])
 (.seq (.seq (.reg [⟨(some 23), none, .load true 5 (.tmp 2)⟩,
 ⟨(some 24), none, .mov (.tmp 7)⟩,
 ⟨(some 25), none, .call (.fn 57) [(.tmp 23), (.tmp 24), (.lit (.int .i64 0)), (.lit (.int .i64 0))]⟩,
 ⟨(some 26), none, .len (.tmp 25)⟩,
 ⟨(some 27), none, .bin .gtr (.tmp 26) (.lit (.int .i64 0))⟩])
 (.cond (.tmp 27) (.seq (.reg [⟨(some 4), none, .mov (.lit (.int .i64 0))⟩,
 ⟨(some 5), none, .mov (.lit (.int .i64 4))⟩])
 (.ret))
 (.skip)))
 (.seq (.reg [⟨(some 28), none, .mov (.tmp 7)⟩,
 ⟨(some 29), none, .len (.tmp 28)⟩,
 ⟨(some 30), none, .call (.fn 54) [(.tmp 29)]⟩,
 ⟨(some 31), none, .bin .sub (.tmp 30) (.lit (.int .i64 1))⟩,
 ⟨(some 8), none, .mov (.tmp 31)⟩])
 (.seq (.seq (.reg [⟨(some 9), none, .mov (.lit (.int .i64 0))⟩])
 (.block 0 (.loop (.seq (.seq (.reg [⟨(some 32), none, .mov (.tmp 9)⟩,
 ⟨(some 33), none, .mov (.tmp 7)⟩,
 ⟨(some 34), none, .len (.tmp 33)⟩,
 ⟨(some 35), none, .call (.fn 54) [(.tmp 34)]⟩,
 ⟨(some 36), none, .bin .lss (.tmp 32) (.tmp 35)⟩])
 (.cond (.tmp 36) (.skip)
 (.exit 0)))
 (.seq (.block 1 (.seq (.draw (.step ⟨(some 39), none, .mov (.tmp 9)⟩ (
 .step ⟨(some 41), none, .mov (.tmp 8)⟩ (
 .ev ⟨(some 40), none, .call (.fn 44) [(.tmp 39)]⟩ [] (
 .ev ⟨(some 42), none, .call (.fn 44) [(.tmp 41)]⟩ [] (
 .step ⟨(some 43), none, .bin .lss (.tmp 40) (.tmp 42)⟩ (
 .step ⟨(some 44), none, .mov (.tmp 43)⟩ (
 .step ⟨(some 45), (some (44, true)), .load true 5 (.tmp 2)⟩ (
 .step ⟨(some 46), (some (44, true)), .mov (.tmp 7)⟩ (
 .step ⟨(some 47), (some (44, true)), .mov (.tmp 9)⟩ (
 .ev ⟨(some 48), (some (44, true)), .call (.fn 43) [(.tmp 46), (.tmp 47)]⟩ [⟨(some 45), (some (44, true)), .load true 5 (.tmp 2)⟩] (
 .ev ⟨(some 49), (some (44, true)), .call (.fn 57) [(.tmp 45), (.tmp 48), (.lit (.int .i64 0)), (.lit (.int .i64 0))]⟩ [] (
 .step ⟨(some 50), (some (44, true)), .len (.tmp 49)⟩ (
 .step ⟨(some 51), (some (44, true)), .bin .gtr (.tmp 50) (.lit (.int .i64 0))⟩ (
 .step ⟨(some 52), none, .pick (.tmp 44) (.tmp 51) (.lit (.bool false))⟩ (
 .done))))
 (.stop))
 (.stop)))))))
 (.stop))
 (.stop)))))
 (.cond (.tmp 52) (.reg [⟨(some 53), none, .mov (.tmp 9)⟩,
 ⟨(some 8), none, .mov (.tmp 53)⟩])
 (.skip))))
 (.reg [⟨(some 37), none, .mov (.tmp 9)⟩,
 ⟨(some 38), none, .bin .add (.tmp 37) (.lit (.int .i64 1))⟩,
 ⟨(some 9), none, .mov (.tmp 38)⟩]))))))
 (.seq (.reg [⟨(some 54), none, .mov (.tmp 8)⟩,
 ⟨(some 4), none, .mov (.tmp 54)⟩,
 ⟨(some 5), none, .mov (.lit (.int .i64 0))⟩])
 (.ret))))))))
theorem k31 : FnC Tryd.prog 31 55 [] [] [.tmp 4, .tmp 5] c31 2 := ⟨Tryd.f31, _, Tryd.func31, rfl, by decide, rfl, by decide, by kernel_rfl, by kernel_rfl⟩
/-- dipworks/dipworksref12.told -/
def c53 : AC :=
 .seq (.reg [⟨(some 4), none, .box (.tmp 0)⟩,
 ⟨(some 8), none, .mov (.lit (.slice none 0 0))⟩,
 ⟨(some 9), none, .mov (.lit (.int .i64 0))⟩])
 (.seq (.draw (.step ⟨(some 12), none, .load true 5 (.tmp 4)⟩ (
 .step ⟨(some 13), none, .mov (.tmp 3)⟩ (
 .step ⟨(some 14), none, .mov (.tmp 13)⟩ (
 .step ⟨(some 15), (some (14, true)), .load true 5 (.tmp 4)⟩ (
 .step ⟨(some 16), (some (14, true)), .mov (.tmp 1)⟩ (
 .ev ⟨(some 17), (some (14, true)), .call (.fn 62) [(.tmp 15), (.tmp 16)]⟩ [⟨(some 12), none, .load true 5 (.tmp 4)⟩] (
 .step ⟨(some 18), none, .pick (.tmp 14) (.tmp 17) (.lit (.bool false))⟩ (
 .step ⟨(some 19), none, .mov (.tmp 18)⟩ (
 .step ⟨(some 20), (some (19, true)), .load true 5 (.tmp 4)⟩ (
 .step ⟨(some 21), (some (19, true)), .mov (.tmp 2)⟩ (
 .ev ⟨(some 22), (some (19, true)), .call (.fn 67) [(.tmp 20), (.tmp 21)]⟩ [⟨(some 15), (some (14, true)), .load true 5 (.tmp 4)⟩, ⟨(some 12), none, .load true 5 (.tmp 4)⟩] (
 .step ⟨(some 23), none, .pick (.tmp 19) (.tmp 22) (.lit (.bool false))⟩ (
 .ev ⟨(some 24), none, .call (.fn 61) [(.tmp 12), (.tmp 23)]⟩ [⟨(some 20), (some (19, true)), .load true 5 (.tmp 4)⟩, ⟨(some 15), (some (14, true)), .load true 5 (.tmp 4)⟩] (
 .step ⟨(some 10), none, .mov (.tmp 24)⟩ (
 .done))
 (.stop)))
 (.stop))))))
 (.stop))))))))
 (.seq (.seq (.reg [⟨(some 25), none, .mov (.tmp 10)⟩,
 ⟨(some 26), none, .bin .neq (.tmp 25) (.lit (.int .i64 0))⟩])
 (.cond (.tmp 26) (.seq (.reg [⟨(some 27), none, .mov (.tmp 10)⟩,
 ⟨(some 8), none, .mov (.lit (.slice none 0 0))⟩,
 ⟨(some 9), none, .mov (.tmp 27)⟩])
 (.ret))
 (.skip)))
 (.seq (.draw (.step ⟨(some 28), none, .load true 5 (.tmp 4)⟩ (
 .step ⟨(some 29), none, .faddr 4 (.tmp 4)⟩ (
 .step ⟨(some 30), none, .load false 1 (.tmp 29)⟩ (
 .step ⟨(some 31), none, .mov (.tmp 1)⟩ (
 .step ⟨(some 32), none, .iaddr 1 (.tmp 30) (.tmp 31)⟩ (
 .step ⟨(some 33), none, .load false 1 (.tmp 32)⟩ (
 .step ⟨(some 34), none, .mov (.tmp 2)⟩ (
 .ev ⟨(some 35), none, .call (.fn 57) [(.tmp 28), (.tmp 33), (.tmp 34), (.lit (.int .i64 0))]⟩ [⟨(some 32), none, .iaddr 1 (.tmp 30) (.tmp 31)⟩, ⟨(some 30), none, .load false 1 (.tmp 29)⟩, ⟨(some 29), none, .faddr 4 (.tmp 4)⟩] (
 .step ⟨(some 11), none, .mov (.tmp 35)⟩ (
 .done))
 (.stop))))))))))
 (.seq (.seq (.reg [⟨(some 36), none, .mov (.tmp 11)⟩,
 ⟨(some 37), none, .len (.tmp 36)⟩,
 ⟨(some 38), none, .bin .eql (.tmp 37) (.lit (.int .i64 0))⟩])
 (.cond (.tmp 38) (.seq (.reg [⟨(some 8), none, .mov (.lit (.slice none 0 0))⟩,
 ⟨(some 9), none, .mov (.lit (.int .i64 10))⟩])
 (.ret))
 (.skip)))
 (.seq (.reg [⟨(some 39), none, .mov (.tmp 11)⟩,
 ⟨(some 8), none, .mov (.tmp 39)⟩,
 ⟨(some 9), none, .mov (.lit (.int .i64 0))⟩])
 (.ret))))))
theorem k53 : FnC Tryd.prog 53 40 [] [] [.tmp 8, .tmp 9] c53 4 := ⟨Tryd.f53, _, Tryd.func53, rfl, by decide, rfl, by decide, by kernel_rfl, by kernel_rfl⟩
/-- dipworks/dipworksref12.places -/
def c57 : AC :=
 .seq (.reg [⟨(some 4), none, .box (.tmp 0)⟩,
 ⟨(some 8), none, .mov (.lit (.slice none 0 0))⟩])
 (.seq (.reg [⟨(some 15), none, .load true 5 (.tmp 4)⟩,
 ⟨(some 16), none, .mov (.tmp 3)⟩,
 ⟨(some 17), none, .call (.fn 85) [(.tmp 15), (.tmp 16)]⟩,
 ⟨(some 9), none, .mov (.tmp 17)⟩])
 (.seq (.reg [⟨(some 18), none, .mov (.tmp 9)⟩,
 ⟨(some 10), none, .mov (.tmp 18)⟩,
 ⟨(some 11), none, .mov (.lit (.int .i64 0))⟩])
 (.seq (.seq (.reg [⟨(some 12), none, .mov (.lit (.int .i64 0))⟩])
 (.block 0 (.loop (.seq (.seq (.reg [⟨(some 19), none, .mov (.tmp 12)⟩,
 ⟨(some 20), none, .mov (.tmp 1)⟩,
 ⟨(some 21), none, .len (.tmp 20)⟩,
 ⟨(some 22), none, .bin .lss (.tmp 19) (.tmp 21)⟩,
 ⟨(some 23), none, .mov (.tmp 22)⟩,
 ⟨(some 24), (some (23, true)), .mov (.tmp 1)⟩,
 ⟨(some 25), (some (23, true)), .mov (.tmp 12)⟩,
 ⟨(some 26), (some (23, true)), .iaddr 5 (.tmp 24) (.tmp 25)⟩,
 ⟨(some 27), (some (23, true)), .faddr 0 (.tmp 26)⟩,
 ⟨(some 28), (some (23, true)), .load false 1 (.tmp 27)⟩,
 ⟨(some 29), (some (23, true)), .mov (.tmp 2)⟩,
 ⟨(some 30), (some (23, true)), .bin .leq (.tmp 28) (.tmp 29)⟩,
 ⟨(some 31), none, .pick (.tmp 23) (.tmp 30) (.lit (.bool false))⟩])
 (.cond (.tmp 31) (.skip)
 (.exit 0)))
 (.seq (.block 1 (.draw (.step ⟨(some 34), none, .load true 5 (.tmp 4)⟩ (
 .step ⟨(some 35), none, .load true 5 (.tmp 4)⟩ (
 .step ⟨(some 36), none, .mov (.tmp 9)⟩ (
 .step ⟨(some 37), none, .mov (.tmp 10)⟩ (
 .step ⟨(some 38), none, .faddr 2 (.tmp 4)⟩ (
 .step ⟨(some 39), none, .load false 1 (.tmp 38)⟩ (
 .step ⟨(some 40), none, .mov (.tmp 1)⟩ (
 .step ⟨(some 41), none, .mov (.tmp 12)⟩ (
 .step ⟨(some 42), none, .iaddr 5 (.tmp 40) (.tmp 41)⟩ (
 .step ⟨(some 43), none, .faddr 0 (.tmp 42)⟩ (
 .step ⟨(some 44), none, .load false 1 (.tmp 43)⟩ (
 .step ⟨(some 45), none, .mov (.tmp 11)⟩ (
 .step ⟨(some 46), none, .bin .sub (.tmp 44) (.tmp 45)⟩ (
 .step ⟨(some 47), none, .bin .mul (.tmp 39) (.tmp 46)⟩ (
 .step ⟨(some 49), none, .mov (.tmp 1)⟩ (
 .step ⟨(some 50), none, .mov (.tmp 12)⟩ (
 .step ⟨(some 51), none, .iaddr 5 (.tmp 49) (.tmp 50)⟩ (
 .step ⟨(some 52), none, .load true 5 (.tmp 51)⟩ (
 .step ⟨(some 54), none, .mov (.tmp 1)⟩ (
 .step ⟨(some 55), none, .mov (.tmp 12)⟩ (
 .step ⟨(some 56), none, .iaddr 5 (.tmp 54) (.tmp 55)⟩ (
 .step ⟨(some 57), none, .faddr 0 (.tmp 56)⟩ (
 .step ⟨(some 58), none, .load false 1 (.tmp 57)⟩ (
 .ev ⟨(some 48), none, .call (.fn 63) [(.tmp 35), (.tmp 36), (.tmp 37), (.tmp 47)]⟩ [⟨(some 58), none, .load false 1 (.tmp 57)⟩, ⟨(some 57), none, .faddr 0 (.tmp 56)⟩, ⟨(some 56), none, .iaddr 5 (.tmp 54) (.tmp 55)⟩, ⟨(some 52), none, .load true 5 (.tmp 51)⟩, ⟨(some 51), none, .iaddr 5 (.tmp 49) (.tmp 50)⟩, ⟨(some 44), none, .load false 1 (.tmp 43)⟩, ⟨(some 43), none, .faddr 0 (.tmp 42)⟩, ⟨(some 42), none, .iaddr 5 (.tmp 40) (.tmp 41)⟩, ⟨(some 39), none, .load false 1 (.tmp 38)⟩, ⟨(some 38), none, .faddr 2 (.tmp 4)⟩, ⟨(some 34), none, .load true 5 (.tmp 4)⟩] (
 .ev ⟨(some 53), none, .call (.fn 86) [(.tmp 34), (.tmp 48), (.tmp 52)]⟩ [⟨(some 58), none, .load false 1 (.tmp 57)⟩, ⟨(some 57), none, .faddr 0 (.tmp 56)⟩, ⟨(some 56), none, .iaddr 5 (.tmp 54) (.tmp 55)⟩, ⟨(some 51), none, .iaddr 5 (.tmp 49) (.tmp 50)⟩, ⟨(some 44), none, .load false 1 (.tmp 43)⟩, ⟨(some 43), none, .faddr 0 (.tmp 42)⟩, ⟨(some 42), none, .iaddr 5 (.tmp 40) (.tmp 41)⟩, ⟨(some 39), none, .load false 1 (.tmp 38)⟩, ⟨(some 38), none, .faddr 2 (.tmp 4)⟩, ⟨(some 35), none, .load true 5 (.tmp 4)⟩] (
 .step ⟨(some 10), none, .mov (.tmp 53)⟩ (
 .step ⟨(some 11), none, .mov (.tmp 58)⟩ (
 .done)))
 (.stop))
 (.stop)))))))))))))))))))))))))))
 (.reg [⟨(some 32), none, .mov (.tmp 12)⟩,
 ⟨(some 33), none, .bin .add (.tmp 32) (.lit (.int .i64 1))⟩,
 ⟨(some 12), none, .mov (.tmp 33)⟩]))))))
 (.seq (.reg [⟨(some 59), none, .load true 5 (.tmp 4)⟩,
 ⟨(some 60), none, .mov (.tmp 9)⟩,
 ⟨(some 61), none, .mov (.tmp 10)⟩,
 ⟨(some 62), none, .faddr 2 (.tmp 4)⟩,
 ⟨(some 63), none, .load false 1 (.tmp 62)⟩,
 ⟨(some 64), none, .mov (.tmp 2)⟩,
 ⟨(some 65), none, .mov (.tmp 11)⟩,
 ⟨(some 66), none, .bin .sub (.tmp 64) (.tmp 65)⟩,
 ⟨(some 67), none, .bin .mul (.tmp 63) (.tmp 66)⟩,
 ⟨(some 68), none, .call (.fn 63) [(.tmp 59), (.tmp 60), (.tmp 61), (.tmp 67)]⟩,
 ⟨(some 13), none, .mov (.tmp 68)⟩])
 (.seq (.draw (.step ⟨(some 69), none, .mov (.tmp 9)⟩ (
 .step ⟨(some 70), none, .faddr 3 (.tmp 4)⟩ (
 .step ⟨(some 71), none, .load false 1 (.tmp 70)⟩ (
 .step ⟨(some 10), none, .mov (.tmp 69)⟩ (
 .step ⟨(some 11), none, .mov (.tmp 71)⟩ (
 .done)))))))
 (.seq (.seq (.reg [⟨(some 72), none, .mov (.tmp 1)⟩,
 ⟨(some 73), none, .len (.tmp 72)⟩,
 ⟨(some 74), none, .bin .sub (.tmp 73) (.lit (.int .i64 1))⟩,
 ⟨(some 14), none, .mov (.tmp 74)⟩])
 (.block 2 (.loop (.seq (.seq (.reg [⟨(some 75), none, .mov (.tmp 14)⟩,
 ⟨(some 76), none, .bin .geq (.tmp 75) (.lit (.int .i64 0))⟩,
 ⟨(some 77), none, .mov (.tmp 76)⟩,
 ⟨(some 78), (some (77, true)), .mov (.tmp 1)⟩,
 ⟨(some 79), (some (77, true)), .mov (.tmp 14)⟩,
 ⟨(some 80), (some (77, true)), .iaddr 5 (.tmp 78) (.tmp 79)⟩,
 ⟨(some 81), (some (77, true)), .faddr 0 (.tmp 80)⟩,
 ⟨(some 82), (some (77, true)), .load false 1 (.tmp 81)⟩,
 ⟨(some 83), (some (77, true)), .mov (.tmp 2)⟩,
 ⟨(some 84), (some (77, true)), .bin .geq (.tmp 82) (.tmp 83)⟩,
 ⟨(some 85), none, .pick (.tmp 77) (.tmp 84) (.lit (.bool false))⟩])
 (.cond (.tmp 85) (.skip)
 (.exit 2)))
 (.seq (.block 3 (.draw (.step ⟨(some 88), none, .load true 5 (.tmp 4)⟩ (
 .step ⟨(some 89), none, .load true 5 (.tmp 4)⟩ (
 .step ⟨(some 90), none, .mov (.tmp 9)⟩ (
 .step ⟨(some 91), none, .mov (.tmp 10)⟩ (
 .step ⟨(some 92), none, .faddr 2 (.tmp 4)⟩ (
 .step ⟨(some 93), none, .load false 1 (.tmp 92)⟩ (
 .step ⟨(some 94), none, .mov (.tmp 11)⟩ (
 .step ⟨(some 95), none, .mov (.tmp 1)⟩ (
 .step ⟨(some 96), none, .mov (.tmp 14)⟩ (
 .step ⟨(some 97), none, .iaddr 5 (.tmp 95) (.tmp 96)⟩ (
 .step ⟨(some 98), none, .faddr 0 (.tmp 97)⟩ (
 .step ⟨(some 99), none, .load false 1 (.tmp 98)⟩ (
 .step ⟨(some 100), none, .bin .sub (.tmp 94) (.tmp 99)⟩ (
 .step ⟨(some 101), none, .bin .mul (.tmp 93) (.tmp 100)⟩ (
 .step ⟨(some 103), none, .mov (.tmp 1)⟩ (
 .step ⟨(some 104), none, .mov (.tmp 14)⟩ (
 .step ⟨(some 105), none, .iaddr 5 (.tmp 103) (.tmp 104)⟩ (
 .step ⟨(some 106), none, .load true 5 (.tmp 105)⟩ (
 .step ⟨(some 108), none, .mov (.tmp 1)⟩ (
 .step ⟨(some 109), none, .mov (.tmp 14)⟩ (
 .step ⟨(some 110), none, .iaddr 5 (.tmp 108) (.tmp 109)⟩ (
 .step ⟨(some 111), none, .faddr 0 (.tmp 110)⟩ (
 .step ⟨(some 112), none, .load false 1 (.tmp 111)⟩ (
 .ev ⟨(some 102), none, .call (.fn 63) [(.tmp 89), (.tmp 90), (.tmp 91), (.tmp 101)]⟩ [⟨(some 112), none, .load false 1 (.tmp 111)⟩, ⟨(some 111), none, .faddr 0 (.tmp 110)⟩, ⟨(some 110), none, .iaddr 5 (.tmp 108) (.tmp 109)⟩, ⟨(some 106), none, .load true 5 (.tmp 105)⟩, ⟨(some 105), none, .iaddr 5 (.tmp 103) (.tmp 104)⟩, ⟨(some 99), none, .load false 1 (.tmp 98)⟩, ⟨(some 98), none, .faddr 0 (.tmp 97)⟩, ⟨(some 97), none, .iaddr 5 (.tmp 95) (.tmp 96)⟩, ⟨(some 93), none, .load false 1 (.tmp 92)⟩, ⟨(some 92), none, .faddr 2 (.tmp 4)⟩, ⟨(some 88), none, .load true 5 (.tmp 4)⟩] (
 .ev ⟨(some 107), none, .call (.fn 86) [(.tmp 88), (.tmp 102), (.tmp 106)]⟩ [⟨(some 112), none, .load false 1 (.tmp 111)⟩, ⟨(some 111), none, .faddr 0 (.tmp 110)⟩, ⟨(some 110), none, .iaddr 5 (.tmp 108) (.tmp 109)⟩, ⟨(some 105), none, .iaddr 5 (.tmp 103) (.tmp 104)⟩, ⟨(some 99), none, .load false 1 (.tmp 98)⟩, ⟨(some 98), none, .faddr 0 (.tmp 97)⟩, ⟨(some 97), none, .iaddr 5 (.tmp 95) (.tmp 96)⟩, ⟨(some 93), none, .load false 1 (.tmp 92)⟩, ⟨(some 92), none, .faddr 2 (.tmp 4)⟩, ⟨(some 89), none, .load true 5 (.tmp 4)⟩] (
 .step ⟨(some 10), none, .mov (.tmp 107)⟩ (
 .step ⟨(some 11), none, .mov (.tmp 112)⟩ (
 .done)))
 (.stop))
 (.stop)))))))))))))))))))))))))))
 (.reg [⟨(some 86), none, .mov (.tmp 14)⟩,
 ⟨(some 87), none, .bin .sub (.tmp 86) (.lit (.int .i64 1))⟩,
 ⟨(some 14), none, .mov (.tmp 87)⟩]))))))
 (.seq (.reg [⟨(some 113), none, .load true 5 (.tmp 4)⟩,
 ⟨(some 114), none, .mov (.tmp 13)⟩,
 ⟨(some 115), none, .mov (.tmp 10)⟩,
 ⟨(some 116), none, .faddr 2 (.tmp 4)⟩,
 ⟨(some 117), none, .load false 1 (.tmp 116)⟩,
 ⟨(some 118), none, .mov (.tmp 11)⟩,
 ⟨(some 119), none, .mov (.tmp 2)⟩,
 ⟨(some 120), none, .bin .sub (.tmp 118) (.tmp 119)⟩,
 ⟨(some 121), none, .bin .mul (.tmp 117) (.tmp 120)⟩,
 ⟨(some 122), none, .call (.fn 63) [(.tmp 113), (.tmp 114), (.tmp 115), (.tmp 121)]⟩,
 ⟨(some 8), none, .mov (.tmp 122)⟩])
 (.ret))))))))
theorem k57 : FnC Tryd.prog 57 123 [] [] [.tmp 8] c57 4 := ⟨Tryd.f57, _, Tryd.func57, rfl, by decide, rfl, by decide, by kernel_rfl, by kernel_rfl⟩
/-- dipworks/dipworksref12.look -/
def c61 : AC :=
 .seq (.reg [⟨(some 2), none, .box (.tmp 0)⟩,
 ⟨(some 4), none, .mov (.lit (.int .i64 0))⟩])
 (.seq (.seq (.reg [⟨(some 5), none, .load true 5 (.tmp 2)⟩,
 ⟨(some 6), none, .call (.fn 36) [(.tmp 5)]⟩,
 ⟨(some 7), none, .un .not (.tmp 6)⟩])
 (.cond (.tmp 7) (.seq (.reg [⟨(some 4), none, .mov (.lit (.int .i64 1))⟩])
 (.ret))
 (.skip)))
 (.seq (.seq (.reg [⟨(some 8), none, .mov (.tmp 1)⟩,
 ⟨(some 9), none, .un .not (.tmp 8)⟩])
 (.cond (.tmp 9) (.seq (.reg [⟨(some 4), none, .mov (.lit (.int .i64 2))⟩])
 (.ret))
 (.skip)))
 (.seq (.reg [⟨(some 4), none, .mov (.lit (.int .i64 0))⟩])
 (.ret))))
theorem k61 : FnC Tryd.prog 61 10 [] [] [.tmp 4] c61 2 := ⟨Tryd.f61, _, Tryd.func61, rfl, by decide, rfl, by decide, by kernel_rfl, by kernel_rfl⟩
/-- dipworks/dipworksref12.Boat -/
def c62 : AC :=
 .seq (.reg [⟨(some 2), none, .box (.tmp 0)⟩,
 ⟨(some 4), none, .mov (.lit (.bool false))⟩])
 (.seq (.reg [⟨(some 5), none, .mov (.tmp 1)⟩,
 ⟨(some 6), none, .faddr 4 (.tmp 2)⟩,
 ⟨(some 7), none, .load false 1 (.tmp 6)⟩,
 ⟨(some 8), none, .len (.tmp 7)⟩,
 ⟨(some 9), none, .bin .sub (.tmp 8) (.lit (.int .i64 1))⟩,
 ⟨(some 10), none, .call (.fn 59) [(.tmp 5), (.lit (.int .i64 0)), (.tmp 9)]⟩,
 ⟨(some 4), none, .mov (.tmp 10)⟩])
 (.ret))
theorem k62 : FnC Tryd.prog 62 11 [] [] [.tmp 4] c62 2 := ⟨Tryd.f62, _, Tryd.func62, rfl, by decide, rfl, by decide, by kernel_rfl, by kernel_rfl⟩
/-- dipworks/dipworksref12.near -/
def c63 : AC :=
 .seq (.reg [⟨(some 4), none, .box (.tmp 0)⟩,
 ⟨(some 8), none, .mov (.lit (.slice none 0 0))⟩])
 (.seq (.reg [⟨(some 9), none, .mov (.lit (.slice none 0 0))⟩])
 (.seq (.seq (.reg [⟨(some 10), none, .mov (.lit (.int .i64 0))⟩])
 (.block 0 (.loop (.seq (.seq (.reg [⟨(some 13), none, .mov (.tmp 10)⟩,
 ⟨(some 14), none, .mov (.tmp 1)⟩,
 ⟨(some 15), none, .len (.tmp 14)⟩,
 ⟨(some 16), none, .bin .lss (.tmp 13) (.tmp 15)⟩])
 (.cond (.tmp 16) (.skip)
 (.exit 0)))
 (.seq (.block 1 (.seq (.reg [⟨(some 11), none, .mov (.lit (.bool false))⟩])
 (.seq (.seq (.reg [⟨(some 12), none, .mov (.lit (.int .i64 0))⟩])
 (.block 2 (.loop (.seq (.seq (.reg [⟨(some 19), none, .mov (.tmp 12)⟩,
 ⟨(some 20), none, .mov (.tmp 2)⟩,
 ⟨(some 21), none, .len (.tmp 20)⟩,
 ⟨(some 22), none, .bin .lss (.tmp 19) (.tmp 21)⟩])
 (.cond (.tmp 22) (.skip)
 (.exit 2)))
 (.seq (.block 3 (.draw (.step ⟨(some 25), none, .mov (.tmp 11)⟩ (
 .step ⟨(some 26), none, .mov (.tmp 25)⟩ (
 .step ⟨(some 27), (some (26, false)), .load true 5 (.tmp 4)⟩ (
 .step ⟨(some 28), (some (26, false)), .mov (.tmp 2)⟩ (
 .step ⟨(some 29), (some (26, false)), .mov (.tmp 12)⟩ (
 .step ⟨(some 30), (some (26, false)), .iaddr 1 (.tmp 28) (.tmp 29)⟩ (
 .step ⟨(some 31), (some (26, false)), .load false 1 (.tmp 30)⟩ (
 .step ⟨(some 32), (some (26, false)), .mov (.tmp 1)⟩ (
 .step ⟨(some 33), (some (26, false)), .mov (.tmp 10)⟩ (
 .step ⟨(some 34), (some (26, false)), .iaddr 1 (.tmp 32) (.tmp 33)⟩ (
 .step ⟨(some 35), (some (26, false)), .load false 1 (.tmp 34)⟩ (
 .step ⟨(some 37), (some (26, false)), .mov (.tmp 3)⟩ (
 .ev ⟨(some 36), (some (26, false)), .call (.fn 88) [(.tmp 27), (.tmp 31), (.tmp 35)]⟩ [⟨(some 34), (some (26, false)), .iaddr 1 (.tmp 32) (.tmp 33)⟩, ⟨(some 30), (some (26, false)), .iaddr 1 (.tmp 28) (.tmp 29)⟩] (
 .step ⟨(some 38), (some (26, false)), .bin .leq (.tmp 36) (.tmp 37)⟩ (
 .step ⟨(some 39), none, .pick (.tmp 26) (.lit (.bool true)) (.tmp 38)⟩ (
 .step ⟨(some 11), none, .mov (.tmp 39)⟩ (
 .done))))
 (.stop))))))))))))))))
 (.reg [⟨(some 23), none, .mov (.tmp 12)⟩,
 ⟨(some 24), none, .bin .add (.tmp 23) (.lit (.int .i64 1))⟩,
 ⟨(some 12), none, .mov (.tmp 24)⟩]))))))
 (.seq (.reg [⟨(some 40), none, .mov (.tmp 11)⟩])
 (.cond (.tmp 40) (.reg [⟨(some 41), none, .mov (.tmp 9)⟩,
 ⟨(some 42), none, .mov (.tmp 1)⟩,
 ⟨(some 43), none, .mov (.tmp 10)⟩,
 ⟨(some 44), none, .iaddr 1 (.tmp 42) (.tmp 43)⟩,
 ⟨(some 45), none, .load false 1 (.tmp 44)⟩,
 ⟨(some 46), none, .bslice 1 (.int .i64 0) 1 [(0, (.tmp 45))]⟩,
 ⟨(some 47), none, .app 1 8 (.tmp 41) (.tmp 46)⟩,
 ⟨(some 9), none, .mov (.tmp 47)⟩])
 (.skip))))))
 (.reg [⟨(some 17), none, .mov (.tmp 10)⟩,
 ⟨(some 18), none, .bin .add (.tmp 17) (.lit (.int .i64 1))⟩,
 ⟨(some 10), none, .mov (.tmp 18)⟩]))))))
 (.seq (.reg [⟨(some 48), none, .mov (.tmp 9)⟩,
 ⟨(some 8), none, .mov (.tmp 48)⟩])
 (.ret))))
theorem k63 : FnC Tryd.prog 63 49 [] [] [.tmp 8] c63 4 := ⟨Tryd.f63, _, Tryd.func63, rfl, by decide, rfl, by decide, by kernel_rfl, by kernel_rfl⟩
/-- dipworks/dipworksref12.Minute -/
def c67 : AC :=
 .seq (.reg [⟨(some 2), none, .box (.tmp 0)⟩,
 ⟨(some 4), none, .mov (.lit (.bool false))⟩])
 (.seq (.reg [⟨(some 5), none, .mov (.tmp 1)⟩,
 ⟨(some 6), none, .faddr 3 (.tmp 2)⟩,
 ⟨(some 7), none, .load false 1 (.tmp 6)⟩,
 ⟨(some 8), none, .call (.fn 59) [(.tmp 5), (.lit (.int .i64 0)), (.tmp 7)]⟩,
 ⟨(some 4), none, .mov (.tmp 8)⟩])
 (.ret))
theorem k67 : FnC Tryd.prog 67 9 [] [] [.tmp 4] c67 2 := ⟨Tryd.f67, _, Tryd.func67, rfl, by decide, rfl, by decide, by kernel_rfl, by kernel_rfl⟩
/-- dipworks/dipworksref12.Place -/
def c68 : AC :=
 .seq (.reg [⟨(some 2), none, .box (.tmp 0)⟩,
 ⟨(some 4), none, .mov (.lit (.bool false))⟩])
 (.seq (.reg [⟨(some 5), none, .mov (.tmp 1)⟩,
 ⟨(some 6), none, .faddr 0 (.tmp 2)⟩,
 ⟨(some 7), none, .load false 1 (.tmp 6)⟩,
 ⟨(some 8), none, .faddr 1 (.tmp 2)⟩,
 ⟨(some 9), none, .load false 1 (.tmp 8)⟩,
 ⟨(some 10), none, .bin .mul (.tmp 7) (.tmp 9)⟩,
 ⟨(some 11), none, .bin .sub (.tmp 10) (.lit (.int .i64 1))⟩,
 ⟨(some 12), none, .call (.fn 59) [(.tmp 5), (.lit (.int .i64 0)), (.tmp 11)]⟩,
 ⟨(some 4), none, .mov (.tmp 12)⟩])
 (.ret))
theorem k68 : FnC Tryd.prog 68 13 [] [] [.tmp 4] c68 2 := ⟨Tryd.f68, _, Tryd.func68, rfl, by decide, rfl, by decide, by kernel_rfl, by kernel_rfl⟩
/-- dipworks/dipworksref12.every -/
def c85 : AC :=
 .seq (.reg [⟨(some 2), none, .box (.tmp 0)⟩,
 ⟨(some 4), none, .mov (.lit (.slice none 0 0))⟩])
 (.seq (.reg [⟨(some 5), none, .mov (.lit (.slice none 0 0))⟩])
 (.seq (.seq (.reg [⟨(some 7), none, .mov (.tmp 1)⟩,
 ⟨(some 8), none, .faddr 0 (.tmp 2)⟩,
 ⟨(some 9), none, .load false 1 (.tmp 8)⟩,
 ⟨(some 10), none, .bin .mul (.tmp 7) (.tmp 9)⟩,
 ⟨(some 6), none, .mov (.tmp 10)⟩])
 (.block 0 (.loop (.seq (.seq (.reg [⟨(some 11), none, .mov (.tmp 6)⟩,
 ⟨(some 12), none, .faddr 0 (.tmp 2)⟩,
 ⟨(some 13), none, .load false 1 (.tmp 12)⟩,
 ⟨(some 14), none, .faddr 1 (.tmp 2)⟩,
 ⟨(some 15), none, .load false 1 (.tmp 14)⟩,
 ⟨(some 16), none, .bin .mul (.tmp 13) (.tmp 15)⟩,
 ⟨(some 17), none, .bin .lss (.tmp 11) (.tmp 16)⟩])
 (.cond (.tmp 17) (.skip)
 (.exit 0)))
 (.seq (.block 1 (.reg [⟨(some 20), none, .mov (.tmp 5)⟩,
 ⟨(some 21), none, .mov (.tmp 6)⟩,
 ⟨(some 22), none, .bslice 1 (.int .i64 0) 1 [(0, (.tmp 21))]⟩,
 ⟨(some 23), none, .app 1 8 (.tmp 20) (.tmp 22)⟩,
 ⟨(some 5), none, .mov (.tmp 23)⟩]))
 (.reg [⟨(some 18), none, .mov (.tmp 6)⟩,
 ⟨(some 19), none, .bin .add (.tmp 18) (.lit (.int .i64 1))⟩,
 ⟨(some 6), none, .mov (.tmp 19)⟩]))))))
 (.seq (.reg [⟨(some 24), none, .mov (.tmp 5)⟩,
 ⟨(some 4), none, .mov (.tmp 24)⟩])
 (.ret))))
theorem k85 : FnC Tryd.prog 85 25 [] [] [.tmp 4] c85 2 := ⟨Tryd.f85, _, Tryd.func85, rfl, by decide, rfl, by decide, by kernel_rfl, by kernel_rfl⟩
/-- dipworks/dipworksref12.within -/
def c86 : AC :=
 .seq (.reg [⟨(some 3), none, .box (.tmp 0)⟩,
 ⟨(some 5), none, .box (.tmp 2)⟩,
 ⟨(some 6), none, .mov (.lit (.slice none 0 0))⟩])
 (.seq (.reg [⟨(some 7), none, .mov (.lit (.slice none 0 0))⟩])
 (.seq (.seq (.reg [⟨(some 8), none, .mov (.lit (.int .i64 0))⟩])
 (.block 0 (.loop (.seq (.seq (.reg [⟨(some 9), none, .mov (.tmp 8)⟩,
 ⟨(some 10), none, .mov (.tmp 1)⟩,
 ⟨(some 11), none, .len (.tmp 10)⟩,
 ⟨(some 12), none, .bin .lss (.tmp 9) (.tmp 11)⟩])
 (.cond (.tmp 12) (.skip)
 (.exit 0)))
 (.seq (.block 1 (.seq (.draw (.step ⟨(some 15), none, .load true 5 (.tmp 3)⟩ (
 .step ⟨(some 16), none, .load true 5 (.tmp 5)⟩ (
 .step ⟨(some 17), none, .mov (.tmp 1)⟩ (
 .step ⟨(some 18), none, .mov (.tmp 8)⟩ (
 .step ⟨(some 19), none, .iaddr 1 (.tmp 17) (.tmp 18)⟩ (
 .step ⟨(some 20), none, .load false 1 (.tmp 19)⟩ (
 .ev ⟨(some 21), none, .call (.fn 40) [(.tmp 15), (.tmp 16), (.tmp 20)]⟩ [⟨(some 19), none, .iaddr 1 (.tmp 17) (.tmp 18)⟩] (
 .done)
 (.stop)))))))))
 (.cond (.tmp 21) (.reg [⟨(some 22), none, .mov (.tmp 7)⟩,
 ⟨(some 23), none, .mov (.tmp 1)⟩,
 ⟨(some 24), none, .mov (.tmp 8)⟩,
 ⟨(some 25), none, .iaddr 1 (.tmp 23) (.tmp 24)⟩,
 ⟨(some 26), none, .load false 1 (.tmp 25)⟩,
 ⟨(some 27), none, .bslice 1 (.int .i64 0) 1 [(0, (.tmp 26))]⟩,
 ⟨(some 28), none, .app 1 8 (.tmp 22) (.tmp 27)⟩,
 ⟨(some 7), none, .mov (.tmp 28)⟩])
 (.skip))))
 (.reg [⟨(some 13), none, .mov (.tmp 8)⟩,
 ⟨(some 14), none, .bin .add (.tmp 13) (.lit (.int .i64 1))⟩,
 ⟨(some 8), none, .mov (.tmp 14)⟩]))))))
 (.seq (.reg [⟨(some 29), none, .mov (.tmp 7)⟩,
 ⟨(some 6), none, .mov (.tmp 29)⟩])
 (.ret))))
theorem k86 : FnC Tryd.prog 86 30 [] [] [.tmp 6] c86 3 := ⟨Tryd.f86, _, Tryd.func86, rfl, by decide, rfl, by decide, by kernel_rfl, by kernel_rfl⟩
/-- dipworks/dipworksref12.Steps -/
def c88 : AC :=
 .seq (.reg [⟨(some 3), none, .box (.tmp 0)⟩,
 ⟨(some 6), none, .mov (.lit (.int .i64 0))⟩])
 (.seq (.draw (.step ⟨(some 9), none, .mov (.tmp 1)⟩ (
 .step ⟨(some 10), none, .faddr 0 (.tmp 3)⟩ (
 .step ⟨(some 11), none, .load false 1 (.tmp 10)⟩ (
 .step ⟨(some 12), none, .bin .rem (.tmp 9) (.tmp 11)⟩ (
 .step ⟨(some 13), none, .mov (.tmp 2)⟩ (
 .step ⟨(some 14), none, .faddr 0 (.tmp 3)⟩ (
 .step ⟨(some 15), none, .load false 1 (.tmp 14)⟩ (
 .step ⟨(some 16), none, .bin .rem (.tmp 13) (.tmp 15)⟩ (
 .step ⟨(some 17), none, .bin .sub (.tmp 12) (.tmp 16)⟩ (
 .step ⟨(some 18), none, .mov (.tmp 1)⟩ (
 .step ⟨(some 19), none, .faddr 0 (.tmp 3)⟩ (
 .step ⟨(some 20), none, .load false 1 (.tmp 19)⟩ (
 .step ⟨(some 21), none, .bin .quo (.tmp 18) (.tmp 20)⟩ (
 .step ⟨(some 22), none, .mov (.tmp 2)⟩ (
 .step ⟨(some 23), none, .faddr 0 (.tmp 3)⟩ (
 .step ⟨(some 24), none, .load false 1 (.tmp 23)⟩ (
 .step ⟨(some 25), none, .bin .quo (.tmp 22) (.tmp 24)⟩ (
 .step ⟨(some 26), none, .bin .sub (.tmp 21) (.tmp 25)⟩ (
 .step ⟨(some 7), none, .mov (.tmp 17)⟩ (
 .step ⟨(some 8), none, .mov (.tmp 26)⟩ (
 .done))))))))))))))))))))))
 (.seq (.reg [⟨(some 27), none, .mov (.tmp 7)⟩,
 ⟨(some 28), none, .mov (.tmp 7)⟩,
 ⟨(some 29), none, .un .neg (.tmp 28)⟩,
 ⟨(some 30), none, .mxmn true (.tmp 27) [(.tmp 29)]⟩,
 ⟨(some 31), none, .mov (.tmp 8)⟩,
 ⟨(some 32), none, .mov (.tmp 8)⟩,
 ⟨(some 33), none, .un .neg (.tmp 32)⟩,
 ⟨(some 34), none, .mxmn true (.tmp 31) [(.tmp 33)]⟩,
 ⟨(some 35), none, .bin .add (.tmp 30) (.tmp 34)⟩,
 ⟨(some 6), none, .mov (.tmp 35)⟩])
 (.ret)))
theorem k88 : FnC Tryd.prog 88 36 [] [] [.tmp 6] c88 3 := ⟨Tryd.f88, _, Tryd.func88, rfl, by decide, rfl, by decide, by kernel_rfl, by kernel_rfl⟩
end Go.Proofs.YtafcdpmcmmfbhaaDoor
