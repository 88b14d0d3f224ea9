/- Proved here: laws that the statements need (ZaC2r, ZaT1, ZaT2, ZaT3, ZaT4, ZaT5). No conditions but those that each law states. -/
import Derived.Test.YtcpkkjbkbdmopaaGreatFL
import Derived.Test.YtcpkkjbkbdmopaaGreatFP
import Derived.Test.YtcpkkjbkbdmopaaGreatProg
import Derived.Test.YtcpkkjbkbdmopaaGreatZI

set_option linter.unusedSimpArgs false
set_option linter.unusedVariables false

/- Compiled code of functions, printed by program; each is checked to be the program's. No conditions. -/
namespace Go.Proofs.YtcpkkjbkbdmopaaGreat
open Go Go.Ab
/-- dipworks/dipworksref11.Size -/
def c19 : AC :=
 .seq (.reg [⟨(some 2), none, .mov (.lit (.int .i64 0))⟩])
 (.seq (.reg [⟨(some 3), none, .mov (.lit (.int .i64 0))⟩])
 (.seq (.block 0 (.loop (.seq (.seq (.reg [⟨(some 4), none, .mov (.tmp 0)⟩,
 ⟨(some 5), none, .bin .gtr (.tmp 4) (.lit (.int .i64 0))⟩])
 (.cond (.tmp 5) (.skip)
 (.exit 0)))
 (.block 1 (.seq (.reg [⟨(some 6), none, .mov (.tmp 3)⟩,
 ⟨(some 7), none, .mov (.tmp 0)⟩,
 ⟨(some 8), none, .bin .rem (.tmp 7) (.lit (.int .i64 2))⟩,
 ⟨(some 9), none, .bin .add (.tmp 6) (.tmp 8)⟩,
 ⟨(some 3), none, .mov (.tmp 9)⟩])
 (.reg [⟨(some 10), none, .mov (.tmp 0)⟩,
 ⟨(some 11), none, .bin .quo (.tmp 10) (.lit (.int .i64 2))⟩,
 ⟨(some 0), none, .mov (.tmp 11)⟩]))))))
 (.seq (.reg [⟨(some 12), none, .mov (.tmp 3)⟩,
 ⟨(some 2), none, .mov (.tmp 12)⟩])
 (.ret))))
theorem k19 : FnC Tryz.prog 19 13 [] [] [.tmp 2] c19 1 := ⟨Tryz.f19, _, Tryz.func19, rfl, by decide, rfl, by decide, by kernel_rfl, by kernel_rfl⟩
/-- dipworks/dipworksref11.check -/
def c45 : AC :=
 .seq (.reg [⟨(some 2), none, .box (.tmp 0)⟩,
 ⟨(some 4), none, .mov (.lit (.int .i64 0))⟩])
 (.seq (.seq (.reg [⟨(some 5), none, .load true 10 (.tmp 2)⟩,
 ⟨(some 6), none, .call (.fn 17) [(.tmp 5)]⟩,
 ⟨(some 7), none, .un .not (.tmp 6)⟩])
 (.cond (.tmp 7) (.seq (.reg [⟨(some 4), none, .mov (.lit (.int .i64 1))⟩])
 (.ret))
 (.skip)))
 (.seq (.seq (.reg [⟨(some 8), none, .mov (.tmp 1)⟩,
 ⟨(some 9), none, .un .not (.tmp 8)⟩])
 (.cond (.tmp 9) (.seq (.reg [⟨(some 4), none, .mov (.lit (.int .i64 2))⟩])
 (.ret))
 (.skip)))
 (.seq (.reg [⟨(some 4), none, .mov (.lit (.int .i64 0))⟩])
 (.ret))))
theorem k45 : FnC Tryz.prog 45 10 [] [] [.tmp 4] c45 2 := ⟨Tryz.f45, _, Tryz.func45, rfl, by decide, rfl, by decide, by kernel_rfl, by kernel_rfl⟩
/-- dipworks/dipworksref11.Weathers -/
def c90 : AC :=
 .seq (.reg [⟨(some 1), none, .box (.tmp 0)⟩,
 ⟨(some 2), none, .mov (.lit (.slice none 0 0))⟩])
 (.seq (.reg [⟨(some 3), none, .mov (.lit (.slice none 0 0))⟩])
 (.seq (.seq (.reg [⟨(some 4), none, .mov (.lit (.int .i64 0))⟩])
 (.block 0 (.loop (.seq (.seq (.reg [⟨(some 7), none, .mov (.tmp 4)⟩,
 ⟨(some 8), none, .faddr 4 (.tmp 1)⟩,
 ⟨(some 9), none, .load false 1 (.tmp 8)⟩,
 ⟨(some 10), none, .call (.fn 49) [(.tmp 9)]⟩,
 ⟨(some 11), none, .bin .lss (.tmp 7) (.tmp 10)⟩])
 (.cond (.tmp 11) (.skip)
 (.exit 0)))
 (.seq (.block 1 (.seq (.reg [⟨(some 5), none, .mov (.lit (.bool true))⟩])
 (.seq (.seq (.reg [⟨(some 6), none, .mov (.lit (.int .i64 0))⟩])
 (.block 2 (.loop (.seq (.seq (.reg [⟨(some 14), none, .mov (.tmp 6)⟩,
 ⟨(some 15), none, .faddr 4 (.tmp 1)⟩,
 ⟨(some 16), none, .load false 1 (.tmp 15)⟩,
 ⟨(some 17), none, .bin .lss (.tmp 14) (.tmp 16)⟩])
 (.cond (.tmp 17) (.skip)
 (.exit 2)))
 (.seq (.block 3 (.seq (.reg [⟨(some 20), none, .faddr 6 (.tmp 1)⟩,
 ⟨(some 21), none, .load false 1 (.tmp 20)⟩,
 ⟨(some 22), none, .mov (.tmp 6)⟩,
 ⟨(some 23), none, .call (.fn 98) [(.tmp 21), (.tmp 22)]⟩,
 ⟨(some 24), none, .mov (.tmp 23)⟩,
 ⟨(some 25), (some (24, true)), .mov (.tmp 4)⟩,
 ⟨(some 26), (some (24, true)), .mov (.tmp 6)⟩,
 ⟨(some 27), (some (24, true)), .call (.fn 98) [(.tmp 25), (.tmp 26)]⟩,
 ⟨(some 28), (some (24, true)), .un .not (.tmp 27)⟩,
 ⟨(some 29), none, .pick (.tmp 24) (.tmp 28) (.lit (.bool false))⟩,
 ⟨(some 30), none, .mov (.tmp 29)⟩,
 ⟨(some 31), (some (30, false)), .mov (.tmp 4)⟩,
 ⟨(some 32), (some (30, false)), .mov (.tmp 6)⟩,
 ⟨(some 33), (some (30, false)), .call (.fn 98) [(.tmp 31), (.tmp 32)]⟩,
 ⟨(some 34), (some (30, false)), .mov (.tmp 33)⟩,
 ⟨(some 35), (some (34, true)), .faddr 6 (.tmp 1)⟩,
 ⟨(some 36), (some (34, true)), .load false 1 (.tmp 35)⟩,
 ⟨(some 37), (some (34, true)), .mov (.tmp 6)⟩,
 ⟨(some 38), (some (34, true)), .call (.fn 98) [(.tmp 36), (.tmp 37)]⟩,
 ⟨(some 39), (some (34, true)), .un .not (.tmp 38)⟩,
 ⟨(some 40), (some (30, false)), .pick (.tmp 34) (.tmp 39) (.lit (.bool false))⟩,
 ⟨(some 41), (some (30, false)), .mov (.tmp 40)⟩,
 ⟨(some 42), (some (41, true)), .faddr 7 (.tmp 1)⟩,
 ⟨(some 43), (some (41, true)), .load false 1 (.tmp 42)⟩,
 ⟨(some 44), (some (41, true)), .mov (.tmp 6)⟩,
 ⟨(some 45), (some (41, true)), .call (.fn 98) [(.tmp 43), (.tmp 44)]⟩,
 ⟨(some 46), (some (41, true)), .un .not (.tmp 45)⟩,
 ⟨(some 47), (some (30, false)), .pick (.tmp 41) (.tmp 46) (.lit (.bool false))⟩,
 ⟨(some 48), none, .pick (.tmp 30) (.lit (.bool true)) (.tmp 47)⟩])
 (.cond (.tmp 48) (.reg [⟨(some 5), none, .mov (.lit (.bool false))⟩])
 (.skip))))
 (.reg [⟨(some 18), none, .mov (.tmp 6)⟩,
 ⟨(some 19), none, .bin .add (.tmp 18) (.lit (.int .i64 1))⟩,
 ⟨(some 6), none, .mov (.tmp 19)⟩]))))))
 (.seq (.reg [⟨(some 49), none, .mov (.tmp 5)⟩])
 (.cond (.tmp 49) (.reg [⟨(some 50), none, .mov (.tmp 3)⟩,
 ⟨(some 51), none, .mov (.tmp 4)⟩,
 ⟨(some 52), none, .bslice 1 (.int .i64 0) 1 [(0, (.tmp 51))]⟩,
 ⟨(some 53), none, .app 1 8 (.tmp 50) (.tmp 52)⟩,
 ⟨(some 3), none, .mov (.tmp 53)⟩])
 (.skip))))))
 (.reg [⟨(some 12), none, .mov (.tmp 4)⟩,
 ⟨(some 13), none, .bin .add (.tmp 12) (.lit (.int .i64 1))⟩,
 ⟨(some 4), none, .mov (.tmp 13)⟩]))))))
 (.seq (.reg [⟨(some 54), none, .mov (.tmp 3)⟩,
 ⟨(some 2), none, .mov (.tmp 54)⟩])
 (.ret))))
theorem k90 : FnC Tryz.prog 90 55 [] [] [.tmp 2] c90 1 := ⟨Tryz.f90, _, Tryz.func90, rfl, by decide, rfl, by decide, by kernel_rfl, by kernel_rfl⟩
/-- dipworks/dipworksref11.From -/
def c99 : AC :=
 .seq (.reg [⟨(some 4), none, .box (.tmp 0)⟩,
 ⟨(some 8), none, .mov (.lit (.int .i64 0))⟩])
 (.seq (.seq (.reg [⟨(some 10), none, .faddr 8 (.tmp 4)⟩,
 ⟨(some 11), none, .load false 1 (.tmp 10)⟩,
 ⟨(some 12), none, .mov (.tmp 2)⟩,
 ⟨(some 13), none, .iaddr 4 (.tmp 11) (.tmp 12)⟩,
 ⟨(some 14), none, .faddr 1 (.tmp 13)⟩,
 ⟨(some 15), none, .load false 1 (.tmp 14)⟩,
 ⟨(some 9), none, .mov (.tmp 15)⟩])
 (.block 0 (.loop (.seq (.seq (.reg [⟨(some 16), none, .mov (.tmp 9)⟩,
 ⟨(some 17), none, .faddr 4 (.tmp 4)⟩,
 ⟨(some 18), none, .load false 1 (.tmp 17)⟩,
 ⟨(some 19), none, .bin .leq (.tmp 16) (.tmp 18)⟩])
 (.cond (.tmp 19) (.skip)
 (.exit 0)))
 (.seq (.block 1 (.seq (.draw (.step ⟨(some 22), none, .load true 10 (.tmp 4)⟩ (
 .step ⟨(some 23), none, .mov (.tmp 1)⟩ (
 .step ⟨(some 24), none, .faddr 8 (.tmp 4)⟩ (
 .step ⟨(some 25), none, .load false 1 (.tmp 24)⟩ (
 .step ⟨(some 26), none, .mov (.tmp 2)⟩ (
 .step ⟨(some 27), none, .iaddr 4 (.tmp 25) (.tmp 26)⟩ (
 .step ⟨(some 28), none, .faddr 1 (.tmp 27)⟩ (
 .step ⟨(some 29), none, .load false 1 (.tmp 28)⟩ (
 .step ⟨(some 30), none, .mov (.tmp 9)⟩ (
 .step ⟨(some 32), none, .mov (.tmp 3)⟩ (
 .ev ⟨(some 31), none, .call (.fn 103) [(.tmp 22), (.tmp 23), (.tmp 29), (.tmp 30)]⟩ [⟨(some 28), none, .faddr 1 (.tmp 27)⟩, ⟨(some 27), none, .iaddr 4 (.tmp 25) (.tmp 26)⟩, ⟨(some 25), none, .load false 1 (.tmp 24)⟩, ⟨(some 24), none, .faddr 8 (.tmp 4)⟩] (
 .step ⟨(some 33), none, .bin .geq (.tmp 31) (.tmp 32)⟩ (
 .done))
 (.stop)))))))))))))
 (.cond (.tmp 33) (.seq (.reg [⟨(some 34), none, .mov (.tmp 9)⟩,
 ⟨(some 8), none, .mov (.tmp 34)⟩])
 (.ret))
 (.skip))))
 (.reg [⟨(some 20), none, .mov (.tmp 9)⟩,
 ⟨(some 21), none, .bin .add (.tmp 20) (.lit (.int .i64 1))⟩,
 ⟨(some 9), none, .mov (.tmp 21)⟩]))))))
 (.seq (.reg [⟨(some 8), none, .mov (.lit (.int .i64 (-1)))⟩])
 (.ret)))
theorem k99 : FnC Tryz.prog 99 35 [] [] [.tmp 8] c99 4 := ⟨Tryz.f99, _, Tryz.func99, rfl, by decide, rfl, by decide, by kernel_rfl, by kernel_rfl⟩
/-- dipworks/dipworksref11.hull -/
def c92 : AC :=
 .seq (.reg [⟨(some 2), none, .alloc [(.int .i64 0), (.int .i64 0)]⟩])
 (.seq (.draw (.step ⟨(some 5), none, .mov (.tmp 0)⟩ (
 .step ⟨(some 6), none, .iaddr 1 (.tmp 5) (.lit (.int .i64 0))⟩ (
 .step ⟨(some 7), none, .load false 1 (.tmp 6)⟩ (
 .step ⟨(some 8), none, .mov (.tmp 0)⟩ (
 .step ⟨(some 9), none, .iaddr 1 (.tmp 8) (.lit (.int .i64 0))⟩ (
 .step ⟨(some 10), none, .load false 1 (.tmp 9)⟩ (
 .step ⟨(some 11), none, .build [(.int .i64 0), (.int .i64 0)] [(0, 1, (.tmp 7)), (1, 1, (.tmp 10))]⟩ (
 .ev ⟨(some 3), none, .alloc [(.int .i64 0), (.int .i64 0)]⟩ [⟨(some 10), none, .load false 1 (.tmp 9)⟩, ⟨(some 9), none, .iaddr 1 (.tmp 8) (.lit (.int .i64 0))⟩, ⟨(some 7), none, .load false 1 (.tmp 6)⟩, ⟨(some 6), none, .iaddr 1 (.tmp 5) (.lit (.int .i64 0))⟩] (
 .ev ⟨none, none, .store 2 (.tmp 3) (.tmp 11)⟩ [] (
 .done)
 (.stop))
 (.stop))))))))))
 (.seq (.seq (.reg [⟨(some 4), none, .mov (.lit (.int .i64 0))⟩])
 (.block 0 (.loop (.seq (.seq (.reg [⟨(some 12), none, .mov (.tmp 4)⟩,
 ⟨(some 13), none, .mov (.tmp 0)⟩,
 ⟨(some 14), none, .len (.tmp 13)⟩,
 ⟨(some 15), none, .bin .lss (.tmp 12) (.tmp 14)⟩])
 (.cond (.tmp 15) (.skip)
 (.exit 0)))
 (.seq (.block 1 (.draw (.step ⟨(some 18), none, .faddr 0 (.tmp 3)⟩ (
 .step ⟨(some 19), none, .load false 1 (.tmp 18)⟩ (
 .step ⟨(some 20), none, .mov (.tmp 0)⟩ (
 .step ⟨(some 21), none, .mov (.tmp 4)⟩ (
 .step ⟨(some 22), none, .iaddr 1 (.tmp 20) (.tmp 21)⟩ (
 .step ⟨(some 23), none, .load false 1 (.tmp 22)⟩ (
 .step ⟨(some 24), none, .mxmn false (.tmp 19) [(.tmp 23)]⟩ (
 .step ⟨(some 25), none, .faddr 1 (.tmp 3)⟩ (
 .step ⟨(some 26), none, .load false 1 (.tmp 25)⟩ (
 .step ⟨(some 27), none, .mov (.tmp 0)⟩ (
 .step ⟨(some 28), none, .mov (.tmp 4)⟩ (
 .step ⟨(some 29), none, .iaddr 1 (.tmp 27) (.tmp 28)⟩ (
 .step ⟨(some 30), none, .load false 1 (.tmp 29)⟩ (
 .step ⟨(some 31), none, .mxmn true (.tmp 26) [(.tmp 30)]⟩ (
 .step ⟨(some 32), none, .build [(.int .i64 0), (.int .i64 0)] [(0, 1, (.tmp 24)), (1, 1, (.tmp 31))]⟩ (
 .ev ⟨none, none, .store 2 (.tmp 3) (.tmp 32)⟩ [] (
 .done)
 (.stop)))))))))))))))))))
 (.reg [⟨(some 16), none, .mov (.tmp 4)⟩,
 ⟨(some 17), none, .bin .add (.tmp 16) (.lit (.int .i64 1))⟩,
 ⟨(some 4), none, .mov (.tmp 17)⟩]))))))
 (.seq (.reg [⟨(some 33), none, .load true 2 (.tmp 3)⟩,
 ⟨none, none, .store 2 (.tmp 2) (.tmp 33)⟩])
 (.ret))))
theorem k92 : FnC Tryz.prog 92 34 [2] [] [.cell 2 true 2] c92 1 := ⟨Tryz.f92, _, Tryz.func92, rfl, by decide, rfl, by decide, by kernel_rfl, by kernel_rfl⟩
/-- dipworks/dipworksref11.Hour -/
def c64 : AC :=
 .seq (.reg [⟨(some 2), none, .box (.tmp 0)⟩,
 ⟨(some 4), none, .mov (.lit (.bool false))⟩])
 (.seq (.reg [⟨(some 5), none, .mov (.tmp 1)⟩,
 ⟨(some 6), none, .faddr 4 (.tmp 2)⟩,
 ⟨(some 7), none, .load false 1 (.tmp 6)⟩,
 ⟨(some 8), none, .call (.fn 33) [(.tmp 5), (.lit (.int .i64 0)), (.tmp 7)]⟩,
 ⟨(some 4), none, .mov (.tmp 8)⟩])
 (.ret))
theorem k64 : FnC Tryz.prog 64 9 [] [] [.tmp 4] c64 2 := ⟨Tryz.f64, _, Tryz.func64, rfl, by decide, rfl, by decide, by kernel_rfl, by kernel_rfl⟩
/-- dipworks/dipworksref11.wet -/
def c68 : AC :=
 .seq (.reg [⟨(some 2), none, .box (.tmp 0)⟩,
 ⟨(some 4), none, .alloc [(.int .i64 0), (.int .i64 0)]⟩])
 (.seq (.reg [⟨(some 5), none, .mov (.lit (.slice none 0 0))⟩])
 (.seq (.reg [⟨(some 8), none, .load true 10 (.tmp 2)⟩,
 ⟨(some 9), none, .call (.fn 90) [(.tmp 8)]⟩,
 ⟨(some 6), none, .mov (.tmp 9)⟩])
 (.seq (.seq (.reg [⟨(some 7), none, .mov (.lit (.int .i64 0))⟩])
 (.block 0 (.loop (.seq (.seq (.reg [⟨(some 10), none, .mov (.tmp 7)⟩,
 ⟨(some 11), none, .mov (.tmp 6)⟩,
 ⟨(some 12), none, .len (.tmp 11)⟩,
 ⟨(some 13), none, .bin .lss (.tmp 10) (.tmp 12)⟩])
 (.cond (.tmp 13) (.skip)
 (.exit 0)))
 (.seq (.block 1 (.draw (.step ⟨(some 16), none, .mov (.tmp 5)⟩ (
 .step ⟨(some 17), none, .load true 10 (.tmp 2)⟩ (
 .step ⟨(some 18), none, .mov (.tmp 6)⟩ (
 .step ⟨(some 19), none, .mov (.tmp 7)⟩ (
 .step ⟨(some 20), none, .iaddr 1 (.tmp 18) (.tmp 19)⟩ (
 .step ⟨(some 21), none, .load false 1 (.tmp 20)⟩ (
 .step ⟨(some 22), none, .mov (.tmp 1)⟩ (
 .step ⟨(some 26), none, .load true 10 (.tmp 2)⟩ (
 .step ⟨(some 27), none, .mov (.tmp 6)⟩ (
 .step ⟨(some 28), none, .mov (.tmp 7)⟩ (
 .step ⟨(some 29), none, .iaddr 1 (.tmp 27) (.tmp 28)⟩ (
 .step ⟨(some 30), none, .load false 1 (.tmp 29)⟩ (
 .step ⟨(some 31), none, .mov (.tmp 1)⟩ (
 .ev ⟨(some 23), none, .call (.fn 91) [(.tmp 17), (.tmp 21), (.tmp 22), (.lit (.bool true))]⟩ [⟨(some 30), none, .load false 1 (.tmp 29)⟩, ⟨(some 29), none, .iaddr 1 (.tmp 27) (.tmp 28)⟩, ⟨(some 26), none, .load true 10 (.tmp 2)⟩, ⟨(some 20), none, .iaddr 1 (.tmp 18) (.tmp 19)⟩] (
 .ev ⟨(some 24), none, .bslice 1 (.int .i64 0) 1 [(0, (.tmp 23))]⟩ [⟨(some 30), none, .load false 1 (.tmp 29)⟩, ⟨(some 29), none, .iaddr 1 (.tmp 27) (.tmp 28)⟩, ⟨(some 26), none, .load true 10 (.tmp 2)⟩, ⟨(some 21), none, .load false 1 (.tmp 20)⟩, ⟨(some 20), none, .iaddr 1 (.tmp 18) (.tmp 19)⟩, ⟨(some 17), none, .load true 10 (.tmp 2)⟩] (
 .ev ⟨(some 25), none, .app 1 8 (.tmp 16) (.tmp 24)⟩ [⟨(some 30), none, .load false 1 (.tmp 29)⟩, ⟨(some 29), none, .iaddr 1 (.tmp 27) (.tmp 28)⟩, ⟨(some 26), none, .load true 10 (.tmp 2)⟩, ⟨(some 21), none, .load false 1 (.tmp 20)⟩, ⟨(some 20), none, .iaddr 1 (.tmp 18) (.tmp 19)⟩, ⟨(some 17), none, .load true 10 (.tmp 2)⟩] (
 .ev ⟨(some 32), none, .call (.fn 91) [(.tmp 26), (.tmp 30), (.tmp 31), (.lit (.bool false))]⟩ [⟨(some 29), none, .iaddr 1 (.tmp 27) (.tmp 28)⟩, ⟨(some 21), none, .load false 1 (.tmp 20)⟩, ⟨(some 20), none, .iaddr 1 (.tmp 18) (.tmp 19)⟩, ⟨(some 17), none, .load true 10 (.tmp 2)⟩] (
 .ev ⟨(some 33), none, .bslice 1 (.int .i64 0) 1 [(0, (.tmp 32))]⟩ [⟨(some 30), none, .load false 1 (.tmp 29)⟩, ⟨(some 29), none, .iaddr 1 (.tmp 27) (.tmp 28)⟩, ⟨(some 26), none, .load true 10 (.tmp 2)⟩, ⟨(some 21), none, .load false 1 (.tmp 20)⟩, ⟨(some 20), none, .iaddr 1 (.tmp 18) (.tmp 19)⟩, ⟨(some 17), none, .load true 10 (.tmp 2)⟩] (
 .ev ⟨(some 34), none, .app 1 8 (.tmp 25) (.tmp 33)⟩ [⟨(some 30), none, .load false 1 (.tmp 29)⟩, ⟨(some 29), none, .iaddr 1 (.tmp 27) (.tmp 28)⟩, ⟨(some 26), none, .load true 10 (.tmp 2)⟩, ⟨(some 21), none, .load false 1 (.tmp 20)⟩, ⟨(some 20), none, .iaddr 1 (.tmp 18) (.tmp 19)⟩, ⟨(some 17), none, .load true 10 (.tmp 2)⟩] (
 .step ⟨(some 5), none, .mov (.tmp 34)⟩ (
 .done))
 (.stop))
 (.stop))
 (.stop))
 (.stop))
 (.stop))
 (.stop)))))))))))))))))
 (.reg [⟨(some 14), none, .mov (.tmp 7)⟩,
 ⟨(some 15), none, .bin .add (.tmp 14) (.lit (.int .i64 1))⟩,
 ⟨(some 7), none, .mov (.tmp 15)⟩]))))))
 (.seq (.seq (.gcp)
 (.reg [⟨(some 35), none, .mov (.tmp 5)⟩,
 ⟨(some 36), none, .call (.fn 92) [(.tmp 35)]⟩,
 ⟨none, none, .store 2 (.tmp 4) (.tmp 36)⟩]))
 (.ret)))))
theorem k68 : FnC Tryz.prog 68 37 [4] [7] [.cell 4 true 2] c68 2 := ⟨Tryz.f68, _, Tryz.func68, rfl, by decide, rfl, by decide, by kernel_rfl, by kernel_rfl⟩
/-- dipworks/dipworksref11.dried -/
def c103 : AC :=
 .seq (.reg [⟨(some 4), none, .box (.tmp 0)⟩,
 ⟨(some 8), none, .mov (.lit (.int .i64 0))⟩])
 (.seq (.reg [⟨(some 9), none, .mov (.lit (.int .i64 0))⟩])
 (.seq (.seq (.reg [⟨(some 11), none, .mov (.tmp 2)⟩,
 ⟨(some 10), none, .mov (.tmp 11)⟩])
 (.block 0 (.loop (.seq (.seq (.reg [⟨(some 12), none, .mov (.tmp 10)⟩,
 ⟨(some 13), none, .mov (.tmp 3)⟩,
 ⟨(some 14), none, .bin .lss (.tmp 12) (.tmp 13)⟩])
 (.cond (.tmp 14) (.skip)
 (.exit 0)))
 (.seq (.block 1 (.seq (.reg [⟨(some 17), none, .mov (.tmp 1)⟩,
 ⟨(some 18), none, .mov (.tmp 10)⟩,
 ⟨(some 19), none, .call (.fn 98) [(.tmp 17), (.tmp 18)]⟩,
 ⟨(some 20), none, .un .not (.tmp 19)⟩])
 (.cond (.tmp 20) (.seq (.reg [⟨(some 21), none, .mov (.tmp 9)⟩,
 ⟨(some 22), none, .bin .add (.tmp 21) (.lit (.int .i64 1))⟩,
 ⟨(some 9), none, .mov (.tmp 22)⟩])
 (.seq (.reg [⟨(some 23), none, .faddr 5 (.tmp 4)⟩,
 ⟨(some 24), none, .load false 1 (.tmp 23)⟩,
 ⟨(some 25), none, .mov (.tmp 10)⟩,
 ⟨(some 26), none, .call (.fn 98) [(.tmp 24), (.tmp 25)]⟩])
 (.cond (.tmp 26) (.reg [⟨(some 27), none, .mov (.tmp 9)⟩,
 ⟨(some 28), none, .bin .add (.tmp 27) (.lit (.int .i64 1))⟩,
 ⟨(some 9), none, .mov (.tmp 28)⟩])
 (.skip))))
 (.skip))))
 (.reg [⟨(some 15), none, .mov (.tmp 10)⟩,
 ⟨(some 16), none, .bin .add (.tmp 15) (.lit (.int .i64 1))⟩,
 ⟨(some 10), none, .mov (.tmp 16)⟩]))))))
 (.seq (.reg [⟨(some 29), none, .mov (.tmp 9)⟩,
 ⟨(some 8), none, .mov (.tmp 29)⟩])
 (.ret))))
theorem k103 : FnC Tryz.prog 103 30 [] [] [.tmp 8] c103 4 := ⟨Tryz.f103, _, Tryz.func103, rfl, by decide, rfl, by decide, by kernel_rfl, by kernel_rfl⟩
/-- dipworks/dipworksref11.Has -/
def c98 : AC :=
 .seq (.reg [⟨(some 4), none, .mov (.lit (.bool false))⟩])
 (.seq (.reg [⟨(some 5), none, .mov (.tmp 0)⟩,
 ⟨(some 6), none, .mov (.tmp 1)⟩,
 ⟨(some 7), none, .call (.fn 49) [(.tmp 6)]⟩,
 ⟨(some 8), none, .bin .quo (.tmp 5) (.tmp 7)⟩,
 ⟨(some 9), none, .bin .rem (.tmp 8) (.lit (.int .i64 2))⟩,
 ⟨(some 10), none, .bin .eql (.tmp 9) (.lit (.int .i64 1))⟩,
 ⟨(some 4), none, .mov (.tmp 10)⟩])
 (.ret))
theorem k98 : FnC Tryz.prog 98 11 [] [] [.tmp 4] c98 2 := ⟨Tryz.f98, _, Tryz.func98, rfl, by decide, rfl, by decide, by kernel_rfl, by kernel_rfl⟩
/-- dipworks/dipworksref11.wetAt -/
def c91 : AC :=
 .seq (.reg [⟨(some 4), none, .box (.tmp 0)⟩,
 ⟨(some 8), none, .mov (.lit (.int .i64 0))⟩])
 (.seq (.reg [⟨(some 9), none, .mov (.lit (.int .i64 0))⟩])
 (.seq (.seq (.reg [⟨(some 10), none, .mov (.lit (.int .i64 0))⟩])
 (.block 0 (.loop (.seq (.seq (.reg [⟨(some 13), none, .mov (.tmp 10)⟩,
 ⟨(some 14), none, .faddr 8 (.tmp 4)⟩,
 ⟨(some 15), none, .load false 1 (.tmp 14)⟩,
 ⟨(some 16), none, .len (.tmp 15)⟩,
 ⟨(some 17), none, .bin .lss (.tmp 13) (.tmp 16)⟩])
 (.cond (.tmp 17) (.skip)
 (.exit 0)))
 (.seq (.block 1 (.seq (.reg [⟨(some 20), none, .faddr 8 (.tmp 4)⟩,
 ⟨(some 21), none, .load false 1 (.tmp 20)⟩,
 ⟨(some 22), none, .mov (.tmp 10)⟩,
 ⟨(some 23), none, .iaddr 4 (.tmp 21) (.tmp 22)⟩,
 ⟨(some 24), none, .faddr 2 (.tmp 23)⟩,
 ⟨(some 25), none, .faddr 1 (.tmp 24)⟩,
 ⟨(some 26), none, .load false 1 (.tmp 25)⟩,
 ⟨(some 11), none, .mov (.tmp 26)⟩])
 (.seq (.seq (.reg [⟨(some 27), none, .mov (.tmp 3)⟩])
 (.cond (.tmp 27) (.reg [⟨(some 28), none, .faddr 8 (.tmp 4)⟩,
 ⟨(some 29), none, .load false 1 (.tmp 28)⟩,
 ⟨(some 30), none, .mov (.tmp 10)⟩,
 ⟨(some 31), none, .iaddr 4 (.tmp 29) (.tmp 30)⟩,
 ⟨(some 32), none, .faddr 2 (.tmp 31)⟩,
 ⟨(some 33), none, .faddr 0 (.tmp 32)⟩,
 ⟨(some 34), none, .load false 1 (.tmp 33)⟩,
 ⟨(some 11), none, .mov (.tmp 34)⟩])
 (.skip)))
 (.seq (.reg [⟨(some 35), none, .load true 10 (.tmp 4)⟩,
 ⟨(some 36), none, .mov (.tmp 1)⟩,
 ⟨(some 37), none, .mov (.tmp 10)⟩,
 ⟨(some 38), none, .mov (.tmp 11)⟩,
 ⟨(some 39), none, .call (.fn 99) [(.tmp 35), (.tmp 36), (.tmp 37), (.tmp 38)]⟩,
 ⟨(some 12), none, .mov (.tmp 39)⟩])
 (.seq (.reg [⟨(some 40), none, .mov (.tmp 12)⟩,
 ⟨(some 41), none, .bin .lss (.tmp 40) (.lit (.int .i64 0))⟩,
 ⟨(some 42), none, .mov (.tmp 41)⟩,
 ⟨(some 43), (some (42, false)), .mov (.tmp 12)⟩,
 ⟨(some 44), (some (42, false)), .mov (.tmp 2)⟩,
 ⟨(some 45), (some (42, false)), .bin .gtr (.tmp 43) (.tmp 44)⟩,
 ⟨(some 46), none, .pick (.tmp 42) (.lit (.bool true)) (.tmp 45)⟩])
 (.cond (.tmp 46) (.reg [⟨(some 47), none, .mov (.tmp 9)⟩,
 ⟨(some 48), none, .faddr 8 (.tmp 4)⟩,
 ⟨(some 49), none, .load false 1 (.tmp 48)⟩,
 ⟨(some 50), none, .mov (.tmp 10)⟩,
 ⟨(some 51), none, .iaddr 4 (.tmp 49) (.tmp 50)⟩,
 ⟨(some 52), none, .faddr 0 (.tmp 51)⟩,
 ⟨(some 53), none, .load false 1 (.tmp 52)⟩,
 ⟨(some 54), none, .bin .add (.tmp 47) (.tmp 53)⟩,
 ⟨(some 9), none, .mov (.tmp 54)⟩])
 (.skip)))))))
 (.reg [⟨(some 18), none, .mov (.tmp 10)⟩,
 ⟨(some 19), none, .bin .add (.tmp 18) (.lit (.int .i64 1))⟩,
 ⟨(some 10), none, .mov (.tmp 19)⟩]))))))
 (.seq (.reg [⟨(some 55), none, .mov (.tmp 9)⟩,
 ⟨(some 8), none, .mov (.tmp 55)⟩])
 (.ret))))
theorem k91 : FnC Tryz.prog 91 56 [] [] [.tmp 8] c91 4 := ⟨Tryz.f91, _, Tryz.func91, rfl, by decide, rfl, by decide, by kernel_rfl, by kernel_rfl⟩
end Go.Proofs.YtcpkkjbkbdmopaaGreat

/- The reference's small functions. -/
namespace Go.Proofs.YtcpkkjbkbdmopaaGreat
open Go Go.Ab

theorem rhas_ok (s n : Nat) (hs : s < 4096) (hn : n ≤ 60) : ACall Tryz.prog 98 [.t (vi s), .t (vi n)] [] (ret (vb (s.testBit n))) := by
  have hp := qpower_ok n hn
  refine ACall.walk k98 ?_
  unfold c98
  have hpos := Nat.two_pow_pos n
  have hb := pow_bd hn
  have e0 : (((2 ^ n : Nat) : Int) = 0) = False := eq_false (by omega)
  have e1 : ((s : Int)).tdiv ((2 ^ n : Nat) : Int) = ((s / 2 ^ n : Nat) : Int) := by rw [Int.tdiv_eq_ediv_of_nonneg (by omega)]; exact (Int.natCast_ediv _ _).symm
  have hle : s / 2 ^ n ≤ s := Nat.div_le_self _ _
  have e4 : s.testBit n = decide (s / 2 ^ n % 2 = 1) := Nat.testBit_eq_decide_div_mod_eq
  generalize s / 2 ^ n = q at *
  have e2 : IntKind.i64.wrap (q : Int) = q := wrap_id (by omega) (by omega)
  have e3 : (q : Int).tmod 2 = ((q % 2 : Nat) : Int) := mod_nat q 2
  have e5 : (((q % 2 : Nat) : Int) == 1) = s.testBit n := by
    rw [e4]
    apply Bool.eq_iff_iff.2
    rw [beq_iff_eq, decide_eq_true_iff]
    omega
  clear e4
  generalize s.testBit n = b at *
  generalize ((2 ^ n : Nat) : Int) = P at *
  simp only [go_sem, Nat.reduceEqDiff]
  refine ACallL.quiet1 hp rfl rfl rfl ?_
  simp only [go_sem, Nat.reduceEqDiff, Int.reduceEq, e0, e1, e2, e3, e5]
  exact finL_ret [] ⟨rfl, rfl, rfl, rfl, _, rfl, ret_mk rfl⟩

set_option maxRecDepth 8000 in
set_option maxHeartbeats 4000000 in
theorem rdried_ok (r : Ra) (hr : r.OK) (w a b : Nat) (hw : w < 4096) (hb : b ≤ 12) : ACall Tryz.prog 103 [.t (tRa r), .t (vi w), .t (vi a), .t (vi b)] [] (ret (vi (driedN (dr r.S w) a b : Nat))) := by
  obtain ⟨_, _, b3⟩ := hr.rains
  have hS : r.sun = ((r.S : Nat) : Int) := by unfold Ra.S; have := hr.sun; omega
  refine ACall.walk k103 ?_
  unfold c103 tRa tw3 ra7
  simp only [go_sem, Nat.reduceEqDiff, Nat.reduceAdd]
  refine awpL_loopK (b - a) (fun i s => (a + i ≤ b ∨ i = 0) ∧ s = { env := [(10, .t (vi (a + i : Nat))), (1, .t (vi w)), (3, .t (vi b)), (4, .t (.ptr (tRa r) 0)), (9, .t (vi (driedN (dr r.S w) a (a + i) : Nat)))], σ := [] })
    ⟨_, Sub.gc [] [10, 1, 3, 4, 9] rfl rfl, .inr rfl, ?_⟩ ?_
  · refine St.gc_mk ?_ rfl rfl rfl
    rw [Nat.add_zero, driedN_none (Nat.le_refl _)]
    rfl
  rintro i s hi ⟨hai, rfl⟩
  unfold tRa tw3 ra7
  cases g : decide (((a + i : Nat) : Int) < (b : Int))
  · have hge := of_decide_eq_false g
    have he : driedN (dr r.S w) a (a + i) = driedN (dr r.S w) a b := by
      rcases hai with h | h
      · rw [show a + i = b by omega]
      · subst h; rw [driedN_none (by omega), driedN_none (by omega)]
    rw [he]
    simp only [go_sem, Nat.reduceEqDiff, g]
    exact finL_ret [] ⟨rfl, rfl, rfl, rfl, _, rfl, ret_mk rfl⟩
  have hlt := of_decide_eq_true g
  have h1 := rhas_ok w (a + i) hw (by omega)
  have h2 := rhas_ok r.S (a + i) (by omega) (by omega)
  rw [← hS] at h2
  have hsucc := driedN_succ (f := dr r.S w) (a := a) (b := a + i) (by omega)
  have hdr : dr r.S w (a + i) = if w.testBit (a + i) then 0 else if r.S.testBit (a + i) then 2 else 1 := rfl
  have hbd := driedN_le (fun h => dr_le r.S w h) a (a + i)
  rw [show a + (i + 1) = a + i + 1 by omega, hsucc, hdr]
  have hil : i < b - a := by omega
  generalize a + i = h at *
  generalize driedN (dr r.S w) a h = D at *
  have w1 : IntKind.i64.wrap ((h : Int) + 1) = ((h + 1 : Nat) : Int) := by rw [wrap_id (by omega) (by omega)]; omega
  have w2 : IntKind.i64.wrap ((D : Int) + 1) = ((D + 1 : Nat) : Int) := by rw [wrap_id (by omega) (by omega)]; omega
  have w3 : IntKind.i64.wrap (((D + 1 : Nat) : Int) + 1) = ((D + 2 : Nat) : Int) := by rw [wrap_id (by omega) (by omega)]; omega
  simp only [go_sem, Nat.reduceEqDiff, g]
  refine ACallL.quiet1 h1 rfl rfl rfl ?_
  cases c1 : w.testBit h
  · simp only [go_sem, Nat.reduceEqDiff, Nat.reduceAdd, Bool.not_false, w2]
    refine ACallL.quiet1 h2 rfl rfl rfl ?_
    cases c2 : r.S.testBit h
    · simp only [go_sem, Nat.reduceEqDiff, w1]
      exact ⟨hil, _, Sub.gc [] [10, 1, 3, 4, 9] rfl rfl, .inl (by omega), St.gc_mk rfl rfl rfl rfl⟩
    · simp only [go_sem, Nat.reduceEqDiff, w1, w3]
      exact ⟨hil, _, Sub.gc [] [10, 1, 3, 4, 9] rfl rfl, .inl (by omega), St.gc_mk rfl rfl rfl rfl⟩
  · simp only [go_sem, Nat.reduceEqDiff, Bool.not_true, w1]
    exact ⟨hil, _, Sub.gc [] [10, 1, 3, 4, 9] rfl rfl, .inl (by omega), St.gc_mk rfl rfl rfl rfl⟩

/-- The document's hour: -1 if there is none. -/
def frI (f : Nat → Nat) (H a wet : Nat) : Int := match fromN f H a wet with
  | some h => h
  | none => -1
theorem frI_tm (f : Nat → Nat) (H a wet : Nat) (hH : H ≤ 12) : (frI f H a wet = (tm f H a wet : Nat) ∧ tm f H a wet ≤ H) ∨ (frI f H a wet = -1 ∧ tm f H a wet = 99) := by
  unfold frI tm
  cases hf : fromN f H a wet with
  | some h => exact .inl ⟨rfl, (fromN_some.1 hf).2.1⟩
  | none => exact .inr ⟨rfl, rfl⟩

set_option maxRecDepth 8000 in
set_option maxHeartbeats 4000000 in
theorem rfrom_ok (r : Ra) (hr : r.OK) (w j wet : Nat) (hw : w < 4096) {l : Ln} (hl : r.lines[j]? = some l) : ACall Tryz.prog 99 [.t (tRa r), .t (vi w), .t (vi j), .t (vi wet)] [] (ret (vi (frI (dr r.S w) r.H l.from_.toNat wet))) := by
  obtain ⟨g1, g2, g3⟩ := hr.H
  have hlk := hr.ln l (List.mem_of_getElem? hl)
  have htl : tLn l = .agg [vi l.many, vi l.from_, vi l.lo, vi l.hi] := rfl
  obtain ⟨a, ha, haH⟩ : ∃ a : Nat, l.from_ = a ∧ a < r.H := ⟨l.from_.toNat, by omega, by omega⟩
  have hat : l.from_.toNat = a := by omega
  rw [hat]
  have hj0 : ((j : Int) < 0) = False := eq_false (by omega)
  refine ACall.walk k99 ?_
  unfold c99 tRa tw3 ra7
  simp only [go_sem, Nat.reduceEqDiff, Nat.reduceAdd, Nat.reduceLeDiff, hl, htl, List.getElem?_map, Option.map_some]
  refine awpL_loopK (r.H + 1 - a) (fun i s => a + i ≤ r.H + 1 ∧ (∀ y, a ≤ y → y < a + i → driedN (dr r.S w) a y < wet) ∧ s = { env := [(9, .t (vi (a + i : Nat))), (1, .t (vi w)), (2, .t (vi j)), (3, .t (vi wet)), (4, .t (.ptr (tRa r) 0))], σ := [] })
    ⟨_, Sub.gc [] [9, 1, 2, 3, 4] rfl rfl, by omega, fun y h1 h2 => by omega, ?_⟩ ?_
  · refine St.gc_mk ?_ rfl rfl rfl
    rw [Nat.add_zero, ← ha]
    rfl
  rintro i s hi ⟨hai, hno, rfl⟩
  have hd := fun h (hh : h ≤ 12) => rdried_ok r hr w a h hw hh
  unfold tRa at hd ⊢
  unfold tw3 ra7 at hd ⊢
  simp only [List.cons_append, List.nil_append] at hd ⊢
  cases g : decide (((a + i : Nat) : Int) ≤ r.hours)
  · have hge := of_decide_eq_false g
    have hf : frI (dr r.S w) r.H a wet = -1 := by
      unfold frI
      rw [fromN_none.2 fun y h1 h2 => hno y h1 (by omega)]
    rw [hf]
    simp only [go_sem, Nat.reduceEqDiff, Nat.reduceAdd, Int.reduceNeg, g]
    exact finL_ret [] ⟨rfl, rfl, rfl, rfl, _, rfl, ret_mk rfl⟩
  have hlt := of_decide_eq_true g
  have hd := hd (a + i) (by omega)
  cases c : decide (wet ≤ driedN (dr r.S w) a (a + i))
  · have hc := of_decide_eq_false c
    have z : decide (((driedN (dr r.S w) a (a + i) : Nat) : Int) ≥ (wet : Int)) = false := decide_eq_false (by omega)
    have hno' : ∀ y, a ≤ y → y < a + (i + 1) → driedN (dr r.S w) a y < wet := fun y h1 h2 => by
      by_cases e : y = a + i
      · rw [e]; omega
      · exact hno y h1 (by omega)
    have hi1 : a + (i + 1) ≤ r.H + 1 := by omega
    have hil : i < r.H + 1 - a := by omega
    rw [show a + (i + 1) = a + i + 1 by omega] at *
    generalize driedN (dr r.S w) a (a + i) = D at *
    generalize a + i = h at *
    have w1 : IntKind.i64.wrap ((h : Int) + 1) = ((h + 1 : Nat) : Int) := by rw [wrap_id (by omega) (by omega)]; omega
    simp only [go_sem, Nat.reduceEqDiff, Nat.reduceAdd, g, hl, htl, ha, List.getElem?_map, Option.map_some]
    refine ACallL.quiet1 hd rfl rfl rfl ?_
    simp only [go_sem, Nat.reduceEqDiff, Nat.reduceAdd, Nat.reduceLeDiff, z, w1, hl, htl, ha, List.getElem?_map, Option.map_some]
    exact ⟨hil, _, Sub.gc [] [9, 1, 2, 3, 4] rfl rfl, by omega, hno', St.gc_mk rfl rfl rfl rfl⟩
  · have hc := of_decide_eq_true c
    have z : decide (((driedN (dr r.S w) a (a + i) : Nat) : Int) ≥ (wet : Int)) = true := decide_eq_true (by omega)
    have hf : frI (dr r.S w) r.H a wet = ((a + i : Nat) : Int) := by
      unfold frI
      rw [fromN_some.2 ⟨by omega, by omega, hc, fun y h1 h2 => hno y h1 (by omega)⟩]
    rw [hf]
    generalize driedN (dr r.S w) a (a + i) = D at *
    generalize a + i = h at *
    simp only [go_sem, Nat.reduceEqDiff, Nat.reduceAdd, g, hl, htl, ha, List.getElem?_map, Option.map_some]
    refine ACallL.quiet1 hd rfl rfl rfl ?_
    simp only [go_sem, Nat.reduceEqDiff, Nat.reduceAdd, z, hl, htl, ha, List.getElem?_map, Option.map_some]
    exact finL_ret [] ⟨rfl, rfl, rfl, rfl, _, rfl, ret_mk rfl⟩
end Go.Proofs.YtcpkkjbkbdmopaaGreat

/- The reference's numbers of towels that are not dry. -/
namespace Go.Proofs.YtcpkkjbkbdmopaaGreat
open Go Go.Ab

/-- When a line is dry, in one weather, if it is as wet as can be, or as little. -/
def rtm (r : Ra) (w : Nat) (least : Bool) (l : Ln) : Nat := tm (dr r.S w) r.H l.from_.toNat (if least then l.lo.toNat else l.hi.toNat)

set_option maxRecDepth 8000 in
set_option maxHeartbeats 4000000 in
theorem rwetAt_ok (r : Ra) (hr : r.OK) (w hour : Nat) (hw : w < 4096) (hh : hour ≤ r.H) (least : Bool) : ACall Tryz.prog 91 [.t (tRa r), .t (vi w), .t (vi hour), .t (vb least)] [] (ret (vi (leftT (rtm r w least) r.lines hour))) := by
  obtain ⟨g1, g2, g3⟩ := hr.H
  have hnl := hr.nl
  refine ACall.walk k91 ?_
  unfold c91 tRa tw3 ra7
  simp only [go_sem, Nat.reduceEqDiff, Nat.reduceAdd]
  refine awpL_loopK r.lines.length (fun j s => s = { env := [(10, .t (vi j)), (1, .t (vi w)), (2, .t (vi hour)), (3, .t (vb least)), (4, .t (.ptr (tRa r) 0)), (9, .t (vi (leftT (rtm r w least) (r.lines.take j) hour)))], σ := [] })
    ⟨_, Sub.gc [] [10, 1, 2, 3, 4, 9] rfl rfl, St.gc_mk rfl rfl rfl rfl⟩ ?_
  rintro j s hj rfl
  have hf0 := fun (wet : Nat) (l : Ln) (hl : r.lines[j]? = some l) => rfrom_ok r hr w j wet hw hl
  unfold tRa at hf0 ⊢
  unfold tw3 ra7 at hf0 ⊢
  simp only [List.cons_append, List.nil_append] at hf0 ⊢
  have hj0 : ((j : Int) < 0) = False := eq_false (by omega)
  cases g : decide ((j : Int) < (r.lines.length : Int))
  · have he : j = r.lines.length := by have := of_decide_eq_false g; omega
    subst he
    rw [List.take_length]
    simp only [go_sem, Nat.reduceEqDiff, Nat.reduceAdd, g, List.length_map]
    exact finL_ret [] ⟨rfl, rfl, rfl, rfl, _, rfl, ret_mk rfl⟩
  have hlt : j < r.lines.length := by have := of_decide_eq_true g; omega
  have hx : r.lines[j]? = some r.lines[j] := List.getElem?_eq_getElem hlt
  have s0 := leftT_succ (rtm r w least) r.lines hour hx
  have hmem : r.lines[j] ∈ r.lines := List.getElem_mem hlt
  generalize r.lines[j] = l at *
  obtain ⟨l1, l2, l3, l4, l5, l6, l7⟩ := hr.ln l hmem
  have htl : tLn l = .agg [vi l.many, vi l.from_, vi l.lo, vi l.hi] := rfl
  have hf := hf0 (if least then l.lo.toNat else l.hi.toNat) l hx
  have hfr := frI_tm (dr r.S w) r.H l.from_.toNat (if least then l.lo.toNat else l.hi.toNat) g2
  rw [show tm (dr r.S w) r.H l.from_.toNat (if least then l.lo.toNat else l.hi.toNat) = rtm r w least l from rfl] at hfr
  have bd := leftT_bd (rtm r w least) hour (r.lines.take j) fun l hl => by have := hr.ln l (List.mem_of_mem_take hl); omega
  rw [List.length_take] at bd
  rw [s0]
  clear hf0
  generalize frI (dr r.S w) r.H l.from_.toNat (if least then l.lo.toNat else l.hi.toNat) = F at *
  generalize rtm r w least l = T0 at *
  generalize leftT (rtm r w least) (r.lines.take j) hour = A0 at *
  have w1 : IntKind.i64.wrap ((j : Int) + 1) = ((j + 1 : Nat) : Int) := by rw [wrap_id (by omega) (by omega)]; omega
  have w2 : IntKind.i64.wrap (A0 + l.many) = A0 + l.many := wrap_id (by omega) (by omega)
  have elo : ((l.lo.toNat : Nat) : Int) = l.lo := by omega
  have ehi : ((l.hi.toNat : Nat) : Int) = l.hi := by omega
  have hcase : (F < 0 ∧ hour < T0) ∨ (¬ F < 0 ∧ F > (hour : Int) ∧ hour < T0) ∨ (¬ F < 0 ∧ ¬ F > (hour : Int) ∧ ¬ hour < T0) := by omega
  cases least
  · rw [if_neg (by decide), ehi] at hf
    simp only [go_sem, Nat.reduceEqDiff, Nat.reduceAdd, g, hx, htl, List.getElem?_map, Option.map_some, List.length_map]
    refine ACallL.quiet1 hf rfl rfl rfl ?_
    rcases hcase with ⟨c1, c2⟩ | ⟨c1, c2, c3⟩ | ⟨c1, c2, c3⟩
    · have d1 := decide_eq_true c1
      simp only [go_sem, Nat.reduceEqDiff, Nat.reduceAdd, Bool.not_true, undef, hx, htl, List.getElem?_map, Option.map_some, d1, w1, w2]
      rw [if_pos c2]
      exact ⟨hlt, _, Sub.gc [] [10, 1, 2, 3, 4, 9] rfl rfl, St.gc_mk rfl rfl rfl rfl⟩
    · have d1 := decide_eq_false c1
      have d2 := decide_eq_true c2
      simp only [go_sem, Nat.reduceEqDiff, Nat.reduceAdd, beq_self_eq_true, hx, htl, List.getElem?_map, Option.map_some, d1, d2, w1, w2]
      rw [if_pos c3]
      exact ⟨hlt, _, Sub.gc [] [10, 1, 2, 3, 4, 9] rfl rfl, St.gc_mk rfl rfl rfl rfl⟩
    · have d1 := decide_eq_false c1
      have d2 := decide_eq_false c2
      simp only [go_sem, Nat.reduceEqDiff, beq_self_eq_true, d1, d2, w1]
      rw [if_neg c3, Int.add_zero]
      exact ⟨hlt, _, Sub.gc [] [10, 1, 2, 3, 4, 9] rfl rfl, St.gc_mk rfl rfl rfl rfl⟩
  · rw [if_pos rfl, elo] at hf
    simp only [go_sem, Nat.reduceEqDiff, Nat.reduceAdd, g, hx, htl, List.getElem?_map, Option.map_some, List.length_map]
    refine ACallL.quiet1 hf rfl rfl rfl ?_
    rcases hcase with ⟨c1, c2⟩ | ⟨c1, c2, c3⟩ | ⟨c1, c2, c3⟩
    · have d1 := decide_eq_true c1
      simp only [go_sem, Nat.reduceEqDiff, Nat.reduceAdd, Bool.not_true, undef, hx, htl, List.getElem?_map, Option.map_some, d1, w1, w2]
      rw [if_pos c2]
      exact ⟨hlt, _, Sub.gc [] [10, 1, 2, 3, 4, 9] rfl rfl, St.gc_mk rfl rfl rfl rfl⟩
    · have d1 := decide_eq_false c1
      have d2 := decide_eq_true c2
      simp only [go_sem, Nat.reduceEqDiff, Nat.reduceAdd, beq_self_eq_true, hx, htl, List.getElem?_map, Option.map_some, d1, d2, w1, w2]
      rw [if_pos c3]
      exact ⟨hlt, _, Sub.gc [] [10, 1, 2, 3, 4, 9] rfl rfl, St.gc_mk rfl rfl rfl rfl⟩
    · have d1 := decide_eq_false c1
      have d2 := decide_eq_false c2
      simp only [go_sem, Nat.reduceEqDiff, beq_self_eq_true, d1, d2, w1]
      rw [if_neg c3, Int.add_zero]
      exact ⟨hlt, _, Sub.gc [] [10, 1, 2, 3, 4, 9] rfl rfl, St.gc_mk rfl rfl rfl rfl⟩
end Go.Proofs.YtcpkkjbkbdmopaaGreat

/- The reference's weathers. -/
namespace Go.Proofs.YtcpkkjbkbdmopaaGreat
open Go Go.Ab

/-- Can it rain so? -/
def badH (r : Ra) (s h : Nat) : Bool := (r.R.testBit h && !s.testBit h) || (s.testBit h && !r.R.testBit h && !r.Pe.testBit h)
def fitsN (r : Ra) (s : Nat) : Nat → Bool
  | 0 => true
  | n + 1 => fitsN r s n && !badH r s n
def wtsL (r : Ra) : Nat → List Nat
  | 0 => []
  | m + 1 => wtsL r m ++ if fitsN r m r.H then [m] else []
theorem wtsL_len (r : Ra) : ∀ m, (wtsL r m).length ≤ m
  | 0 => Nat.le_refl _
  | m + 1 => by
    have := wtsL_len r m
    unfold wtsL
    rw [List.length_append]
    split
    · simp only [List.length_cons, List.length_nil]; omega
    · simp only [List.length_nil]; omega
theorem mem_wtsL (r : Ra) {s : Nat} : ∀ {m : Nat}, s ∈ wtsL r m ↔ (s < m ∧ fitsN r s r.H = true)
  | 0 => by simp [wtsL]
  | m + 1 => by
    unfold wtsL
    rw [List.mem_append, mem_wtsL r (m := m)]
    constructor
    · rintro (⟨h1, h2⟩ | h)
      · exact ⟨by omega, h2⟩
      · split at h
        · rename_i hf
          rw [List.mem_singleton] at h
          subst h
          exact ⟨by omega, hf⟩
        · simp at h
    · rintro ⟨h1, h2⟩
      by_cases e : s = m
      · subst e
        right
        rw [if_pos h2]
        exact List.mem_singleton.2 rfl
      · exact .inl ⟨by omega, h2⟩

set_option maxRecDepth 8000 in
set_option maxHeartbeats 4000000 in
theorem rweathers_ok (r : Ra) (hr : r.OK) : ACall Tryz.prog 90 [.t (tRa r)] [] (res (.ret (.t (.slice 1 (tNs (wtsL r (2 ^ r.H))))))) := by
  obtain ⟨g1, g2, g3⟩ := hr.H
  obtain ⟨b1, b2, b3⟩ := hr.rains
  have hR : r.rain = ((r.R : Nat) : Int) := by unfold Ra.R; have := hr.rain; omega
  have hP : r.perhaps = ((r.Pe : Nat) : Int) := by unfold Ra.Pe; have := hr.perhaps; omega
  have hpw := qpower_ok r.H (by omega)
  rw [← g3] at hpw
  have hp12 : 2 ^ r.H ≤ 2 ^ 12 := Nat.pow_le_pow_right (by omega) g2
  refine ACall.walk k90 ?_
  unfold c90 tRa tw3 ra7
  simp only [go_sem]
  refine awpL_loopK (2 ^ r.H) (fun k s => s = { env := [(4, .t (vi k)), (1, .t (.ptr (tRa r) 0)), (3, .loc 0 (wtsL r k).length)], σ := [.row 1 ((tNs (wtsL r k)).map .t)] })
    ⟨_, (Sub.ghost 3 1 (by decide) rfl).trans (Sub.gc [1] [4, 1, 3] rfl rfl), St.gc_mk rfl rfl rfl rfl⟩ ?_
  rintro k s hk rfl
  unfold tRa tw3 ra7
  cases g : decide ((k : Int) < ((2 ^ r.H : Nat) : Int))
  · have he : k = 2 ^ r.H := by have := of_decide_eq_false g; omega
    subst he
    simp only [go_sem, Nat.reduceEqDiff, Nat.reduceAdd]
    refine ACallL.quiet1 hpw rfl rfl rfl ?_
    simp only [go_sem, Nat.reduceEqDiff, g]
    exact finL_ret [] ⟨rfl, rfl, rfl, rfl, _, rfl, res_mk (congrArg Out.ret (gc_loc rfl rfl (by simp)))⟩
  have hlt : k < 2 ^ r.H := by have := of_decide_eq_true g; omega
  have hlen := wtsL_len r k
  have e1 : wtsL r (k + 1) = wtsL r k ++ if fitsN r k r.H then [k] else [] := rfl
  have w1 : IntKind.i64.wrap ((k : Int) + 1) = ((k + 1 : Nat) : Int) := by rw [wrap_id (by omega) (by omega)]; omega
  have hk12 : k < 4096 := by omega
  generalize hW : wtsL r k = L at *
  generalize 2 ^ r.H = M at *
  simp only [go_sem, Nat.reduceEqDiff, Nat.reduceAdd]
  refine ACallL.quiet1 hpw rfl rfl rfl ?_
  simp only [go_sem, Nat.reduceEqDiff, g]
  refine awpL_loopK r.H (fun j s => s = { env := [(6, .t (vi j)), (5, .t (vb (fitsN r k j))), (4, .t (vi k)), (1, .t (.ptr (tRa r) 0)), (3, .loc 0 L.length)], σ := [.row 1 ((tNs L).map .t)] })
    ⟨_, Sub.gc [0] [6, 5, 4, 1, 3] rfl rfl, St.gc_mk rfl (by unfold σgc; simp only [List.map_cons, List.map_nil, List.getD_cons_zero, AO.gc, gc_tNs]) rfl rfl⟩ ?_
  rintro j s hj rfl
  unfold tRa tw3 ra7
  have w2 : IntKind.i64.wrap ((j : Int) + 1) = ((j + 1 : Nat) : Int) := by rw [wrap_id (by omega) (by omega)]; omega
  cases c : decide ((j : Int) < r.hours)
  · have he : j = r.H := by have := of_decide_eq_false c; omega
    subst he
    have x1 : ((L.length + 1) ≤ maxLen) = True := eq_true (by unfold maxLen; omega)
    have x2 : ((L.length + 1) * 8 ≤ 140737488355328) = True := eq_true (by omega)
    have hl1 : (tNs L).length = L.length := by simp [tNs]
    rw [e1]
    cases hf : fitsN r k r.H
    · simp only [go_sem, Nat.reduceEqDiff, Nat.reduceAdd, c, w1]
      exact ⟨hlt, _, Sub.gc [0] [4, 1, 3] rfl rfl, St.gc_mk rfl (by unfold σgc; simp only [List.map_cons, List.map_nil, List.getD_cons_zero, AO.gc, gc_tNs]) rfl rfl⟩
    · simp only [go_sem, Nat.reduceEqDiff, Nat.reduceAdd, Nat.reduceLT, c, w1, x1, x2, hl1, List.length_map]
      have ht : (tNs L).map E.t ++ [E.t (vi k)] = (tNs (L ++ [k])).map E.t := by simp [tNs]
      rw [ht]
      have hll : (L ++ [k]).length = L.length + 1 := by simp
      rw [hll]
      refine ⟨hlt, _, Sub.gc [0] [4, 1, 3] rfl rfl, St.gc_mk rfl (by unfold σgc; simp only [List.map_cons, List.map_nil, List.getD_cons_zero, AO.gc, gc_tNs]) rfl rfl⟩
  have hjl : j < r.H := by have := of_decide_eq_true c; omega
  have h1 := rhas_ok r.R j b1 (by omega)
  have h2 := rhas_ok k j hk12 (by omega)
  have h3 := rhas_ok r.Pe j b2 (by omega)
  rw [← hR] at h1
  rw [← hP] at h3
  have e2 : fitsN r k (j + 1) = (fitsN r k j && !badH r k j) := rfl
  have e3 : badH r k j = ((r.R.testBit j && !k.testBit j) || (k.testBit j && !r.R.testBit j && !r.Pe.testBit j)) := rfl
  rw [e2, e3]
  generalize fitsN r k j = F at *
  generalize r.R.testBit j = B1 at *
  generalize k.testBit j = B2 at *
  generalize r.Pe.testBit j = B3 at *
  simp only [go_sem, Nat.reduceEqDiff, Nat.reduceAdd, c]
  refine ACallL.quiet1 h1 rfl rfl rfl ?_
  cases B1 <;> cases B2 <;> cases B3 <;>
  · repeat' (first
      | refine ACallL.quiet1 h2 rfl rfl rfl ?_
      | refine ACallL.quiet1 h1 rfl rfl rfl ?_
      | refine ACallL.quiet1 h3 rfl rfl rfl ?_
      | exact ⟨hjl, _, Sub.gc [0] [6, 5, 4, 1, 3] rfl rfl, St.gc_mk rfl (by unfold σgc; simp only [List.map_cons, List.map_nil, List.getD_cons_zero, AO.gc, gc_tNs]) rfl rfl⟩
      | simp only [go_sem, Nat.reduceEqDiff, Nat.reduceAdd, Bool.not_true, Bool.not_false, undef, beq_self_eq_true, Bool.and_true, Bool.and_false, Bool.or_true, Bool.or_false, w2, Bool.and_true, Bool.and_false, Bool.or_false])
end Go.Proofs.YtcpkkjbkbdmopaaGreat

/- Plain laws of the reference's spans: over all weathers they are the program's. -/
namespace Go.Proofs.YtcpkkjbkbdmopaaGreat
open Go Go.Ab

/-- The span of some numbers, with the first of them at hand. -/
def hullX (x : Int) (l : List Int) : Int × Int := (l.foldl min x, l.foldl max x)
theorem foldl_min_of {m : Int} : ∀ {l : List Int} {x : Int}, m ≤ x → (∀ y ∈ l, m ≤ y) → (m = x ∨ m ∈ l) → l.foldl min x = m
  | [], x, h1, h2, h3 => by
    rcases h3 with h | h
    · exact h.symm
    · simp at h
  | y :: l, x, h1, h2, h3 => by
    rw [List.foldl_cons]
    have hy := h2 y List.mem_cons_self
    refine foldl_min_of (by omega) (fun z hz => h2 z (List.mem_cons_of_mem _ hz)) ?_
    rcases h3 with h | h
    · left; omega
    · rcases List.mem_cons.1 h with h | h
      · left; omega
      · exact .inr h
theorem foldl_max_of {m : Int} : ∀ {l : List Int} {x : Int}, x ≤ m → (∀ y ∈ l, y ≤ m) → (m = x ∨ m ∈ l) → l.foldl max x = m
  | [], x, h1, h2, h3 => by
    rcases h3 with h | h
    · exact h.symm
    · simp at h
  | y :: l, x, h1, h2, h3 => by
    rw [List.foldl_cons]
    have hy := h2 y List.mem_cons_self
    refine foldl_max_of (by omega) (fun z hz => h2 z (List.mem_cons_of_mem _ hz)) ?_
    rcases h3 with h | h
    · left; omega
    · rcases List.mem_cons.1 h with h | h
      · left; omega
      · exact .inr h
theorem hullX_of {l : List Int} {x m M : Int} (hx : x ∈ l) (hm : m ∈ l) (hM : M ∈ l) (h1 : ∀ y ∈ l, m ≤ y) (h2 : ∀ y ∈ l, y ≤ M) : hullX x l = (m, M) := by
  unfold hullX
  rw [foldl_min_of (h1 x hx) h1 (.inr hm), foldl_max_of (h2 x hx) h2 (.inr hM)]

/-! ### Weathers -/
theorem fits_iff (r : Ra) (s : Nat) : ∀ n, fitsN r s n = true ↔ ∀ h, h < n → badH r s h = false
  | 0 => by simp [fitsN]
  | n + 1 => by
    unfold fitsN
    rw [Bool.and_eq_true, fits_iff r s n]
    constructor
    · rintro ⟨h1, h2⟩ h hh
      by_cases e : h = n
      · subst e; simpa using h2
      · exact h1 h (by omega)
    · intro h
      exact ⟨fun k hk => h k (by omega), by rw [h n (by omega)]; rfl⟩
theorem wts_rains (r : Ra) (hr : r.OK) (foul : Bool) : r.rains foul ∈ wtsL r (2 ^ r.H) := by
  have e1 : r.R < 2 ^ r.H := by unfold Ra.R Ra.H; have := hr.rain; omega
  have e2 : r.Pe < 2 ^ r.H := by unfold Ra.Pe Ra.H; have := hr.perhaps; omega
  rw [mem_wtsL]
  refine ⟨?_, (fits_iff _ _ _).2 fun h hh => ?_⟩
  · unfold Ra.rains
    split
    · exact Nat.or_lt_two_pow e1 e2
    · exact e1
  · unfold badH Ra.rains
    split
    · rw [Nat.testBit_or]
      cases r.R.testBit h <;> cases r.Pe.testBit h <;> rfl
    · cases r.R.testBit h <;> cases r.Pe.testBit h <;> rfl
/-- What a weather dries is between. -/
theorem wts_dr {r : Ra} {s : Nat} (hs : s ∈ wtsL r (2 ^ r.H)) {h : Nat} (hh : h < r.H) : r.f true h ≤ dr r.S s h ∧ dr r.S s h ≤ r.f false h := by
  have hb := (fits_iff _ _ _).1 (mem_wtsL r |>.1 hs).2 h hh
  unfold badH at hb
  unfold Ra.f Ra.rains
  rw [if_pos rfl, if_neg (by decide)]
  constructor
  · refine dr_mono fun hb2 => ?_
    rw [Nat.testBit_or]
    rw [hb2] at hb
    revert hb
    cases r.R.testBit h <;> cases r.Pe.testBit h <;> simp
  · refine dr_mono fun hb2 => ?_
    rw [hb2] at hb
    revert hb
    cases s.testBit h <;> simp
theorem wts_lt {r : Ra} (hr : r.OK) {s : Nat} (hs : s ∈ wtsL r (2 ^ r.H)) : s < 4096 := by
  have := (mem_wtsL r |>.1 hs).1
  have hp12 : 2 ^ r.H ≤ 2 ^ 12 := Nat.pow_le_pow_right (by omega) hr.H.2.1
  omega

/-! ### Wet -/
theorem rtm_rains (r : Ra) (foul : Bool) : rtm r (r.rains foul) (!foul) = r.tm foul := by
  funext l
  unfold rtm Ra.tm Ra.f Ln.wet
  cases foul <;> rfl
theorem rtm_tm {r : Ra} (hr : r.OK) {s : Nat} (hs : s ∈ wtsL r (2 ^ r.H)) (least : Bool) {l : Ln} (hl : l ∈ r.lines) : r.tm false l ≤ rtm r s least l ∧ rtm r s least l ≤ r.tm true l := by
  have hln := hr.ln l hl
  obtain ⟨_, h2, _⟩ := hr.H
  unfold rtm Ra.tm Ln.wet
  constructor
  · refine tm_mono h2 (by simp; omega) (fun h hh => (wts_dr hs hh).2) (Nat.le_refl _) ?_
    cases least <;> simp <;> omega
  · refine tm_mono h2 ?_ (fun h hh => (wts_dr hs hh).1) (Nat.le_refl _) ?_
    · cases least <;> simp <;> omega
    · cases least <;> simp <;> omega
theorem left_wts {r : Ra} (hr : r.OK) {s : Nat} (hs : s ∈ wtsL r (2 ^ r.H)) (least : Bool) (hour : Nat) : r.left false hour ≤ leftT (rtm r s least) r.lines hour ∧ leftT (rtm r s least) r.lines hour ≤ r.left true hour :=
  ⟨leftT_mono r.lines (fun l hl => (hr.ln l hl).1) fun l hl => (rtm_tm hr hs least hl).1, leftT_mono r.lines (fun l hl => (hr.ln l hl).1) fun l hl => (rtm_tm hr hs least hl).2⟩
/-- The numbers of towels of some weathers. -/
def wetsL (r : Ra) (hour : Nat) (ws : List Nat) : List Int := ws.flatMap fun s => [leftT (rtm r s true) r.lines hour, leftT (rtm r s false) r.lines hour]
theorem wets_succ (r : Ra) (hour : Nat) (ws : List Nat) {j s : Nat} (h : ws[j]? = some s) : wetsL r hour (ws.take (j + 1)) = wetsL r hour (ws.take j) ++ [leftT (rtm r s true) r.lines hour, leftT (rtm r s false) r.lines hour] := by
  unfold wetsL
  rw [List.take_add_one, h, List.flatMap_append]
  simp
theorem wets_len (r : Ra) (hour : Nat) (ws : List Nat) : (wetsL r hour ws).length = 2 * ws.length := by
  unfold wetsL
  induction ws with
  | nil => rfl
  | cons a t ih => rw [List.flatMap_cons, List.length_append, ih]; simp; omega
theorem wets_hull (r : Ra) (hr : r.OK) (hour : Nat) {x : Int} (hx : x ∈ wetsL r hour (wtsL r (2 ^ r.H))) : hullX x (wetsL r hour (wtsL r (2 ^ r.H))) = r.wet hour := by
  have hall : ∀ y ∈ wetsL r hour (wtsL r (2 ^ r.H)), r.left false hour ≤ y ∧ y ≤ r.left true hour := by
    intro y hy
    obtain ⟨s, hs, hy⟩ := List.mem_flatMap.1 hy
    simp only [List.mem_cons, List.not_mem_nil, or_false] at hy
    rcases hy with rfl | rfl
    · exact left_wts hr hs true hour
    · exact left_wts hr hs false hour
  have hin : ∀ foul, r.left foul hour ∈ wetsL r hour (wtsL r (2 ^ r.H)) := by
    intro foul
    refine List.mem_flatMap.2 ⟨_, wts_rains r hr foul, ?_⟩
    unfold Ra.left
    rw [← rtm_rains]
    cases foul <;> simp
  exact hullX_of hx (hin false) (hin true) (fun y hy => (hall y hy).1) fun y hy => (hall y hy).2

/-! ### Dry -/
/-- When a line is dry, in some weathers, for all its wets. -/
def fromsL (r : Ra) (l : Ln) (s n : Nat) : List Int := (List.range n).map fun i => frI (dr r.S s) r.H l.from_.toNat (l.lo.toNat + i)
def drysL (r : Ra) (l : Ln) (ws : List Nat) : List Int := ws.flatMap fun s => fromsL r l s (l.hi.toNat + 1 - l.lo.toNat)
theorem froms_succ (r : Ra) (l : Ln) (s n : Nat) : fromsL r l s (n + 1) = fromsL r l s n ++ [frI (dr r.S s) r.H l.from_.toNat (l.lo.toNat + n)] := by
  unfold fromsL
  rw [List.range_succ, List.map_append]; rfl
theorem froms_len (r : Ra) (l : Ln) (s n : Nat) : (fromsL r l s n).length = n := by simp [fromsL]
theorem drys_succ (r : Ra) (l : Ln) (ws : List Nat) {j s : Nat} (h : ws[j]? = some s) : drysL r l (ws.take (j + 1)) = drysL r l (ws.take j) ++ fromsL r l s (l.hi.toNat + 1 - l.lo.toNat) := by
  unfold drysL
  rw [List.take_add_one, h, List.flatMap_append]
  simp
theorem drys_len (r : Ra) (l : Ln) (ws : List Nat) : (drysL r l ws).length = ws.length * (l.hi.toNat + 1 - l.lo.toNat) := by
  unfold drysL
  induction ws with
  | nil => simp
  | cons a t ih => rw [List.flatMap_cons, List.length_append, ih, froms_len, List.length_cons, Nat.succ_mul]; omega
theorem mem_drys {r : Ra} {l : Ln} {ws : List Nat} {x : Int} : x ∈ drysL r l ws ↔ ∃ s ∈ ws, ∃ wet, l.lo.toNat ≤ wet ∧ wet < l.lo.toNat + (l.hi.toNat + 1 - l.lo.toNat) ∧ x = frI (dr r.S s) r.H l.from_.toNat wet := by
  unfold drysL fromsL
  constructor
  · intro h
    obtain ⟨s, hs, h⟩ := List.mem_flatMap.1 h
    obtain ⟨i, hi, rfl⟩ := List.mem_map.1 h
    exact ⟨s, hs, l.lo.toNat + i, by omega, by have := List.mem_range.1 hi; omega, rfl⟩
  · rintro ⟨s, hs, wet, h1, h2, rfl⟩
    refine List.mem_flatMap.2 ⟨s, hs, List.mem_map.2 ⟨wet - l.lo.toNat, List.mem_range.2 (by omega), ?_⟩⟩
    rw [show l.lo.toNat + (wet - l.lo.toNat) = wet by omega]
/-- The span of all is that of the program, or none. -/
theorem drys_hull (r : Ra) (hr : r.OK) {l : Ln} (hl : l ∈ r.lines) {x : Int} (hx : x ∈ drysL r l (wtsL r (2 ^ r.H))) :
    (r.tm true l ≤ r.H ∧ hullX x (drysL r l (wtsL r (2 ^ r.H))) = (((r.tm false l : Nat) : Int), ((r.tm true l : Nat) : Int))) ∨ (¬ r.tm true l ≤ r.H ∧ (hullX x (drysL r l (wtsL r (2 ^ r.H)))).1 < 0) := by
  obtain ⟨l1, l2, l3, l4, l5, l6, l7⟩ := hr.ln l hl
  obtain ⟨g1, g2, g3⟩ := hr.H
  have hall : ∀ s ∈ wtsL r (2 ^ r.H), ∀ wet, l.lo.toNat ≤ wet → wet ≤ l.hi.toNat → r.tm false l ≤ tm (dr r.S s) r.H l.from_.toNat wet ∧ tm (dr r.S s) r.H l.from_.toNat wet ≤ r.tm true l := by
    intro s hs wet h1 h2
    unfold Ra.tm Ln.wet
    exact ⟨tm_mono g2 (by simp; omega) (fun h hh => (wts_dr hs hh).2) (Nat.le_refl _) (by simpa using h1), tm_mono g2 (by omega) (fun h hh => (wts_dr hs hh).1) (Nat.le_refl _) (by simpa using h2)⟩
  have hin : ∀ foul, frI (r.f foul) r.H l.from_.toNat (l.wet foul) ∈ drysL r l (wtsL r (2 ^ r.H)) := by
    intro foul
    refine mem_drys.2 ⟨_, wts_rains r hr foul, l.wet foul, ?_, ?_, rfl⟩
    · unfold Ln.wet; split <;> omega
    · unfold Ln.wet; split <;> omega
  have hfr : ∀ foul, (frI (r.f foul) r.H l.from_.toNat (l.wet foul) = (r.tm foul l : Nat) ∧ r.tm foul l ≤ r.H) ∨ (frI (r.f foul) r.H l.from_.toNat (l.wet foul) = -1 ∧ r.tm foul l = 99) := fun foul => frI_tm _ _ _ _ g2
  by_cases hT : r.tm true l ≤ r.H
  · left
    refine ⟨hT, ?_⟩
    have hle := r.tm_le hr hl
    have hft : ∀ foul, ((r.tm foul l : Nat) : Int) ∈ drysL r l (wtsL r (2 ^ r.H)) := by
      intro foul
      have h1 := hin foul
      rcases hfr foul with ⟨h2, h3⟩ | ⟨h2, h3⟩
      · rw [← h2]; exact h1
      · exfalso
        cases foul <;> omega
    have hall2 : ∀ y ∈ drysL r l (wtsL r (2 ^ r.H)), ((r.tm false l : Nat) : Int) ≤ y ∧ y ≤ ((r.tm true l : Nat) : Int) := by
      intro y hy
      obtain ⟨s, hs, wet, h1, h2, rfl⟩ := mem_drys.1 hy
      have h3 := hall s hs wet h1 (by omega)
      rcases frI_tm (dr r.S s) r.H l.from_.toNat wet g2 with ⟨h4, h5⟩ | ⟨h4, h5⟩
      · omega
      · omega
    exact hullX_of hx (hft false) (hft true) (fun y hy => (hall2 y hy).1) fun y hy => (hall2 y hy).2
  · right
    refine ⟨hT, ?_⟩
    have h1 := hin true
    rcases hfr true with ⟨h2, h3⟩ | ⟨h2, h3⟩
    · omega
    rw [h2] at h1
    unfold hullX
    have hge : ∀ y ∈ drysL r l (wtsL r (2 ^ r.H)), -1 ≤ y := by
      intro y hy
      obtain ⟨s, hs, wet, _, _, rfl⟩ := mem_drys.1 hy
      rcases frI_tm (dr r.S s) r.H l.from_.toNat wet g2 with ⟨h4, h5⟩ | ⟨h4, h5⟩ <;> omega
    show List.foldl min x (drysL r l (wtsL r (2 ^ r.H))) < 0
    rw [foldl_min_of (m := -1) (hge x hx) hge (.inr h1)]
    omega

/-! ### Latest -/
/-- Is a towel dry for sure? -/
def sureN (r : Ra) (much a hour : Nat) (ws : List Nat) : Bool := ws.all fun s => decide (much ≤ driedN (dr r.S s) a hour)
theorem sure_succ (r : Ra) (much a hour : Nat) (ws : List Nat) {j s : Nat} (h : ws[j]? = some s) : sureN r much a hour (ws.take (j + 1)) = (sureN r much a hour (ws.take j) && decide (much ≤ driedN (dr r.S s) a hour)) := by
  unfold sureN
  rw [List.take_add_one, h, List.all_append]
  simp
theorem sure_eq (r : Ra) (hr : r.OK) (much a hour : Nat) (hh : hour ≤ r.H) : sureN r much a hour (wtsL r (2 ^ r.H)) = decide (much ≤ driedN (r.f true) a hour) := by
  apply Bool.eq_iff_iff.2
  unfold sureN
  rw [List.all_eq_true, decide_eq_true_iff]
  constructor
  · intro h
    have := h _ (wts_rains r hr true)
    simpa [Ra.f] using this
  · intro h s hs
    rw [decide_eq_true_iff]
    exact Nat.le_trans h (driedN_mono (fun k hk => (wts_dr hs (by omega)).1) (Nat.le_refl _))
end Go.Proofs.YtcpkkjbkbdmopaaGreat

/- The reference's checks, span and wet. -/
namespace Go.Proofs.YtcpkkjbkbdmopaaGreat
open Go Go.Ab

theorem qcheck_ok (r : Ra) (hL : r.lines.length < 9223372036854775808) (v : Bool) : ACall Tryz.prog 45 [.t (tRa r), .t (vb v)] [] (ret (vi (chk r v))) := by
  have h := rrail_ok r hL
  refine ACall.walk k45 ?_
  unfold c45
  unfold tRa at h ⊢
  unfold tw3 ra7 at h ⊢
  simp only [List.cons_append, List.nil_append] at h
  simp only [go_sem, Nat.reduceEqDiff, Nat.reduceAdd]
  refine ACallL.quiet1 h rfl rfl rfl ?_
  cases hok : r.ok
  · simp only [go_sem, Nat.reduceEqDiff, Bool.not_false]
    exact finL_ret [] ⟨rfl, rfl, rfl, rfl, _, rfl, ret_mk (by unfold chk; rw [hok]; rfl)⟩
  cases v
  · simp only [go_sem, Nat.reduceEqDiff, Bool.not_true, Bool.not_false]
    exact finL_ret [] ⟨rfl, rfl, rfl, rfl, _, rfl, ret_mk (by unfold chk; rw [hok]; rfl)⟩
  · simp only [go_sem, Nat.reduceEqDiff, Bool.not_true]
    exact finL_ret [] ⟨rfl, rfl, rfl, rfl, _, rfl, ret_mk (by unfold chk; rw [hok]; rfl)⟩
theorem qhour_ok (r : Ra) (n : Int) : ACall Tryz.prog 64 [.t (tRa r), .t (vi n)] [] (ret (vb (r.isH n))) := by
  have h := qin_ok n 0 r.hours
  refine ACall.walk k64 ?_
  unfold c64 tRa tw3 ra7
  simp only [go_sem, Nat.reduceEqDiff, Nat.reduceAdd, Nat.reduceLeDiff]
  refine ACallL.quiet1 h rfl rfl rfl ?_
  simp only [go_sem, Nat.reduceEqDiff]
  exact finL_ret [] ⟨rfl, rfl, rfl, rfl, _, rfl, ret_mk rfl⟩

theorem mn_eq (a b : Int) : (if b ≤ a then b else a) = min a b := by rw [Int.min_def]; split <;> split <;> omega
theorem mx_eq (a b : Int) : (if a ≤ b then b else a) = max a b := by rw [Int.max_def]

set_option maxRecDepth 8000 in
set_option maxHeartbeats 4000000 in
theorem qhull_ok (l : List Int) (x : Int) (h0 : l[0]? = some x) (hlen : l.length < 1073741824) : ACall Tryz.prog 92 [.t (.slice 1 (l.map vi))] [] (ret (tS (hullX x l))) := by
  refine ACall.walk k92 ?_
  unfold c92
  simp only [go_sem, Nat.reduceEqDiff, Nat.reduceAdd, Nat.reduceLeDiff, Int.reduceLE, undef, List.getElem?_map, h0, Option.map_some]
  refine awpL_loopK l.length (fun j s => s = { env := [(4, .t (vi j)), (0, .t (.slice 1 (l.map vi))), (2, .ptr 0 0), (3, .ptr 1 0)], σ := [.cells [.t (vi 0), .t (vi 0)], .cells [.t (vi (hullX x (l.take j)).1), .t (vi (hullX x (l.take j)).2)]] })
    ⟨_, Sub.gc [0, 1] [4, 0, 2, 3] rfl rfl, St.gc_mk rfl rfl rfl rfl⟩ ?_
  rintro j s hj rfl
  have w1 : IntKind.i64.wrap ((j : Int) + 1) = ((j + 1 : Nat) : Int) := by rw [wrap_id (by omega) (by omega)]; omega
  have hj0 : ((j : Int) < 0) = False := eq_false (by omega)
  cases g : decide ((j : Int) < (l.length : Int))
  · have he : j = l.length := by have := of_decide_eq_false g; omega
    subst he
    rw [List.take_length]
    simp only [go_sem, Nat.reduceEqDiff, Nat.reduceAdd, undef, g, List.length_map]
    exact finL_ret [] ⟨rfl, rfl, rfl, rfl, _, rfl, ret_mk rfl⟩
  have hlt : j < l.length := by have := of_decide_eq_true g; omega
  have hx : l[j]? = some l[j] := List.getElem?_eq_getElem hlt
  have e1 : hullX x (l.take (j + 1)) = (min (hullX x (l.take j)).1 l[j], max (hullX x (l.take j)).2 l[j]) := by
    unfold hullX
    rw [List.take_add_one, hx]
    simp only [Option.toList_some, List.foldl_append, List.foldl_cons, List.foldl_nil]
  rw [e1]
  generalize l[j] = y at *
  generalize hullX x (l.take j) = X at *
  simp only [go_sem, Nat.reduceEqDiff, Nat.reduceAdd, Nat.reduceLeDiff, undef, g, List.length_map, List.getElem?_map, hx, Option.map_some, w1]
  exact ⟨hlt, _, Sub.gc [0, 1] [4, 0, 2, 3] rfl rfl, St.gc_mk rfl rfl rfl rfl⟩

set_option maxRecDepth 8000 in
set_option maxHeartbeats 4000000 in
theorem qwet_ok (r : Ra) (hr : r.OK) (hour : Nat) (hh : hour ≤ r.H) : ACall Tryz.prog 68 [.t (tRa r), .t (vi hour)] [] (ret (tS (r.wet hour))) := by
  have hw := rweathers_ok r hr
  have hwl := wtsL_len r (2 ^ r.H)
  have hp12 : 2 ^ r.H ≤ 2 ^ 12 := Nat.pow_le_pow_right (by omega) hr.H.2.1
  have hwt : ∀ (j s : Nat), (wtsL r (2 ^ r.H))[j]? = some s → ∀ least, ACall Tryz.prog 91 [.t (tRa r), .t (vi s), .t (vi hour), .t (vb least)] [] (ret (vi (leftT (rtm r s least) r.lines hour))) := fun j s h least =>
    rwetAt_ok r hr s hour (wts_lt hr (List.mem_of_getElem? h)) hh least
  have hhull : ∀ x, x ∈ wetsL r hour (wtsL r (2 ^ r.H)) → hullX x (wetsL r hour (wtsL r (2 ^ r.H))) = r.wet hour := fun x hx => wets_hull r hr hour hx
  have hne : 0 < (wtsL r (2 ^ r.H)).length := List.length_pos_of_mem (wts_rains r hr true)
  have hnt : (tNs (wtsL r (2 ^ r.H))).length = (wtsL r (2 ^ r.H)).length := by simp [tNs]
  have hgt : ∀ j, (tNs (wtsL r (2 ^ r.H)))[j]? = ((wtsL r (2 ^ r.H))[j]?).map fun n : Nat => vi n := fun j => by unfold tNs; rw [List.getElem?_map]
  refine ACall.walk k68 ?_
  unfold c68
  generalize wtsL r (2 ^ r.H) = W at *
  unfold tRa at hw hwt ⊢
  unfold tw3 ra7 at hw hwt ⊢
  simp only [List.cons_append, List.nil_append] at hw hwt
  simp only [go_sem, Nat.reduceEqDiff, Nat.reduceAdd]
  refine ACallL.fresh1 hw rfl ?_
  simp only [go_sem, Nat.reduceEqDiff]
  refine awpL_loopK W.length (fun j s => s = { env := [(7, .t (vi j)), (1, .t (vi hour)), (2, .t (.ptr (tRa r) 0)), (4, .ptr 0 0), (5, .loc 1 (2 * j)), (6, .t (.slice 1 (tNs W)))], σ := [.cells [.t (vi 0), .t (vi 0)], .row 1 (((wetsL r hour (W.take j)).map vi).map .t)] })
    ⟨_, (Sub.ghost 5 1 (by decide) rfl).trans (Sub.gc [1, 2] [7, 1, 2, 4, 5, 6] rfl rfl), St.gc_mk rfl rfl rfl rfl⟩ ?_
  rintro j s hj rfl
  unfold tRa tw3 ra7
  have w1 : IntKind.i64.wrap ((j : Int) + 1) = ((j + 1 : Nat) : Int) := by rw [wrap_id (by omega) (by omega)]; omega
  have hj0 : ((j : Int) < 0) = False := eq_false (by omega)
  cases g : decide ((j : Int) < (W.length : Int))
  · have he : j = W.length := by have := of_decide_eq_false g; omega
    subst he
    rw [List.take_length]
    simp only [go_sem, Nat.reduceEqDiff, g, hnt]
    obtain ⟨x, hx0⟩ : ∃ x, (wetsL r hour W)[0]? = some x := ⟨_, List.getElem?_eq_getElem (by rw [wets_len]; omega)⟩
    have hl2 := wets_len r hour W
    have hhl := qhull_ok (wetsL r hour W) x hx0 (by omega)
    rw [hhull x (List.mem_of_getElem? hx0)] at hhl
    generalize wetsL r hour W = L at *
    have hgc : ∀ σ : List AO, σ[1]? = some (AO.row 1 ((L.map vi).map .t)) → E.gc [0] σ 12 (.loc 1 (2 * W.length)) = .t (.slice 1 (L.map vi)) := fun σ hσ => gc_loc rfl hσ (by simp [hl2])
    refine awpL_gcpE [0] [4, 5] { env := [(4, .ptr 0 0), (5, .t (.slice 1 (L.map vi)))], σ := [.cells [.t (vi 0), .t (vi 0)]] } ?_ rfl rfl ?_
    · refine St.gc_mk ?_ rfl rfl rfl
      show [(4, _), (5, E.gc [0] _ 12 (.loc 1 (2 * W.length)))] = _
      rw [hgc _ rfl]
      rfl
    simp only [go_sem, Nat.reduceEqDiff]
    refine ACallL.fresh1 hhl rfl ?_
    simp only [tS, go_sem, Nat.reduceEqDiff, Nat.reduceAdd, undef]
    exact finL_ret [] ⟨rfl, rfl, rfl, rfl, _, rfl, ret_mk rfl⟩
  have hlt : j < W.length := by have := of_decide_eq_true g; omega
  have hx : W[j]? = some W[j] := List.getElem?_eq_getElem hlt
  have hwl2 := wets_len r hour (W.take j)
  rw [List.length_take, Nat.min_eq_left hj] at hwl2
  rw [wets_succ r hour W hx]
  have c1 := hwt j _ hx true
  have c2 := hwt j _ hx false
  generalize leftT (rtm r W[j] true) r.lines hour = A at *
  generalize leftT (rtm r W[j] false) r.lines hour = B at *
  generalize wetsL r hour (W.take j) = L at *
  generalize W[j] = y at *
  have x1 : (2 * j + 1 ≤ maxLen) = True := eq_true (by unfold maxLen; omega)
  have x2 : ((2 * j + 1) * 8 ≤ 140737488355328) = True := eq_true (by omega)
  have x3 : (2 * j + 1 + 1 ≤ maxLen) = True := eq_true (by unfold maxLen; omega)
  have x4 : ((2 * j + 1 + 1) * 8 ≤ 140737488355328) = True := eq_true (by omega)
  have hA : (List.map E.t (List.map vi L) ++ [E.t (vi A)]).length = 2 * j + 1 := by simp [hwl2]
  have hB : List.map E.t (List.map vi L) ++ [E.t (vi A)] ++ [E.t (vi B)] = List.map E.t (List.map vi (L ++ [A, B])) := by simp
  have hj2 : 2 * j + 1 + 1 = 2 * (j + 1) := by omega
  simp only [go_sem, Nat.reduceEqDiff, Nat.reduceAdd, g, hnt, hgt, hx, Option.map_some]
  repeat' (first
    | refine ACallL.quiet1 c1 rfl rfl rfl ?_
    | refine ACallL.quiet1 c2 rfl rfl rfl ?_
    | simp only [go_sem, Nat.reduceEqDiff, Nat.reduceAdd, Nat.reduceLT, hgt, hx, Option.map_some, w1, x1, x2, x3, x4, hwl2, hA, hB, List.length_map])
  rw [hj2]
  exact ⟨hlt, _, Sub.gc [0, 1] [7, 1, 2, 4, 5, 6] rfl rfl, St.gc_mk rfl (by unfold σgc; simp only [List.map_cons, List.map_nil, List.getD_cons_zero, List.getD_cons_succ, AO.gc, gc_row]; rfl) rfl rfl⟩
end Go.Proofs.YtcpkkjbkbdmopaaGreat
