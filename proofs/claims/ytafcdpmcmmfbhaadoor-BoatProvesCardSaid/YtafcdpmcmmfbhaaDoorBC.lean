/- Proved here: laws that the statements need (BoC1p, BoK, BoL, BoM, BoN). No conditions but those that each law states. -/
import Derived.Test.YtafcdpmcmmfbhaaDoorFL
import Derived.Test.YtafcdpmcmmfbhaaDoorProg
import Derived.Test.YtafcdpmcmmfbhaaDoorBB

set_option linter.unusedSimpArgs false
set_option linter.unusedVariables false

/- Compiled code of functions, printed by program; each is checked to be the program's. No conditions. -/
namespace Go.Proofs.YtafcdpmcmmfbhaaDoor
open Go Go.Ab
/-- dipworks/boat.Can -/
def c16 : AC :=
 .seq (.reg [⟨(some 3), none, .box (.tmp 0)⟩,
 ⟨(some 6), none, .mov (.lit (.int .i64 0))⟩,
 ⟨(some 7), none, .alloc [(.int .i64 0)]⟩])
 (.seq (.reg [⟨none, none, .defer 48 [(.tmp 7)]⟩])
 (.seq (.draw (.step ⟨(some 9), none, .load true 5 (.tmp 3)⟩ (
 .step ⟨(some 10), none, .load true 5 (.tmp 3)⟩ (
 .step ⟨(some 11), none, .mov (.tmp 1)⟩ (
 .ev ⟨(some 12), none, .call (.fn 50) [(.tmp 10), (.tmp 11)]⟩ [⟨(some 9), none, .load true 5 (.tmp 3)⟩] (
 .step ⟨(some 13), none, .mov (.tmp 12)⟩ (
 .step ⟨(some 14), (some (13, true)), .load true 5 (.tmp 3)⟩ (
 .step ⟨(some 15), (some (13, true)), .mov (.tmp 2)⟩ (
 .ev ⟨(some 16), (some (13, true)), .call (.fn 51) [(.tmp 14), (.tmp 15)]⟩ [⟨(some 10), none, .load true 5 (.tmp 3)⟩, ⟨(some 9), none, .load true 5 (.tmp 3)⟩] (
 .step ⟨(some 17), none, .pick (.tmp 13) (.tmp 16) (.lit (.bool false))⟩ (
 .ev ⟨(some 18), none, .call (.fn 49) [(.tmp 9), (.tmp 17)]⟩ [⟨(some 14), (some (13, true)), .load true 5 (.tmp 3)⟩, ⟨(some 10), none, .load true 5 (.tmp 3)⟩] (
 .step ⟨(some 8), none, .mov (.tmp 18)⟩ (
 .done))
 (.stop)))
 (.stop)))))
 (.stop))))))
 (.seq (.reg [⟨(some 19), none, .mov (.tmp 8)⟩,
 ⟨(some 20), none, .mov (.tmp 1)⟩,
 ⟨(some 21), none, .call (.fn 52) [(.tmp 19), (.tmp 20)]⟩,
 ⟨(some 22), none, .mov (.tmp 2)⟩,
 ⟨(some 23), none, .aidx 13 false 1 (.tmp 21) (.tmp 22)⟩,
 ⟨(some 24), none, .conv .i64 (.tmp 23)⟩,
 ⟨(some 6), none, .mov (.tmp 24)⟩,
 ⟨none, none, .store 1 (.tmp 7) (.lit (.int .i64 0))⟩])
 (.ret))))
theorem k16 : FnC Tryd.prog 16 25 [6, 7] [] [.tmp 6, .cell 7 false 1] c16 3 := ⟨Tryd.f16, _, Tryd.func16, rfl, by decide, rfl, by decide, by kernel_rfl, by kernel_rfl⟩
/-- dipworks/boat.Rows -/
def c18 : AC :=
 .seq (.reg [⟨(some 3), none, .box (.tmp 0)⟩,
 ⟨(some 6), none, .alloc [(.int .i64 0), (.int .i64 0)]⟩,
 ⟨(some 7), none, .alloc [(.int .i64 0)]⟩])
 (.seq (.reg [⟨none, none, .defer 48 [(.tmp 7)]⟩])
 (.seq (.draw (.step ⟨(some 9), none, .load true 5 (.tmp 3)⟩ (
 .step ⟨(some 10), none, .load true 5 (.tmp 3)⟩ (
 .step ⟨(some 11), none, .mov (.tmp 1)⟩ (
 .ev ⟨(some 12), none, .call (.fn 50) [(.tmp 10), (.tmp 11)]⟩ [⟨(some 9), none, .load true 5 (.tmp 3)⟩] (
 .step ⟨(some 13), none, .mov (.tmp 12)⟩ (
 .step ⟨(some 14), (some (13, true)), .load true 5 (.tmp 3)⟩ (
 .step ⟨(some 15), (some (13, true)), .mov (.tmp 2)⟩ (
 .ev ⟨(some 16), (some (13, true)), .call (.fn 51) [(.tmp 14), (.tmp 15)]⟩ [⟨(some 10), none, .load true 5 (.tmp 3)⟩, ⟨(some 9), none, .load true 5 (.tmp 3)⟩] (
 .step ⟨(some 17), none, .pick (.tmp 13) (.tmp 16) (.lit (.bool false))⟩ (
 .ev ⟨(some 18), none, .call (.fn 49) [(.tmp 9), (.tmp 17)]⟩ [⟨(some 14), (some (13, true)), .load true 5 (.tmp 3)⟩, ⟨(some 10), none, .load true 5 (.tmp 3)⟩] (
 .step ⟨(some 8), none, .mov (.tmp 18)⟩ (
 .done))
 (.stop)))
 (.stop)))))
 (.stop))))))
 (.seq (.reg [⟨(some 19), none, .mov (.tmp 8)⟩,
 ⟨(some 20), none, .mov (.tmp 8)⟩,
 ⟨(some 21), none, .mov (.tmp 1)⟩,
 ⟨(some 22), none, .call (.fn 52) [(.tmp 20), (.tmp 21)]⟩,
 ⟨(some 23), none, .mov (.tmp 2)⟩,
 ⟨(some 24), none, .aidx 13 false 1 (.tmp 22) (.tmp 23)⟩,
 ⟨(some 25), none, .call (.fn 55) [(.tmp 19), (.tmp 24)]⟩,
 ⟨none, none, .store 2 (.tmp 6) (.tmp 25)⟩,
 ⟨none, none, .store 1 (.tmp 7) (.lit (.int .i64 0))⟩])
 (.ret))))
theorem k18 : FnC Tryd.prog 18 26 [6, 7] [] [.cell 6 true 2, .cell 7 false 1] c18 3 := ⟨Tryd.f18, _, Tryd.func18, rfl, by decide, rfl, by decide, by kernel_rfl, by kernel_rfl⟩
/-- dipworks/boat.Nearest -/
def c20 : AC :=
 .seq (.reg [⟨(some 2), none, .box (.tmp 0)⟩,
 ⟨(some 4), none, .alloc [(.int .i64 0), (.int .i64 0)]⟩,
 ⟨(some 5), none, .alloc [(.int .i64 0)]⟩])
 (.seq (.reg [⟨none, none, .defer 48 [(.tmp 5)]⟩])
 (.seq (.draw (.step ⟨(some 6), none, .load true 5 (.tmp 2)⟩ (
 .step ⟨(some 7), none, .load true 5 (.tmp 2)⟩ (
 .step ⟨(some 8), none, .mov (.tmp 1)⟩ (
 .step ⟨(some 11), none, .mov (.tmp 1)⟩ (
 .ev ⟨(some 9), none, .call (.fn 50) [(.tmp 7), (.tmp 8)]⟩ [⟨(some 6), none, .load true 5 (.tmp 2)⟩] (
 .ev ⟨(some 10), none, .call (.fn 49) [(.tmp 6), (.tmp 9)]⟩ [⟨(some 7), none, .load true 5 (.tmp 2)⟩] (
 .ev ⟨(some 12), none, .call (.fn 56) [(.tmp 10), (.tmp 11)]⟩ [⟨(some 7), none, .load true 5 (.tmp 2)⟩, ⟨(some 6), none, .load true 5 (.tmp 2)⟩] (
 .ev ⟨none, none, .store 2 (.tmp 4) (.tmp 12)⟩ [] (
 .ev ⟨none, none, .store 1 (.tmp 5) (.lit (.int .i64 0))⟩ [] (
 .done)
 (.stop))
 (.stop))
 (.stop))
 (.stop))
 (.stop)))))))
 (.ret)))
theorem k20 : FnC Tryd.prog 20 13 [4, 5] [] [.cell 4 true 2, .cell 5 false 1] c20 2 := ⟨Tryd.f20, _, Tryd.func20, rfl, by decide, rfl, by decide, by kernel_rfl, by kernel_rfl⟩
/-- dipworks/boat.Broke -/
def c22 : AC :=
 .seq (.reg [⟨(some 3), none, .box (.tmp 0)⟩,
 ⟨(some 6), none, .mov (.lit (.int .i64 0))⟩,
 ⟨(some 7), none, .alloc [(.int .i64 0)]⟩])
 (.seq (.reg [⟨none, none, .defer 48 [(.tmp 7)]⟩])
 (.seq (.draw (.step ⟨(some 9), none, .load true 5 (.tmp 3)⟩ (
 .step ⟨(some 10), none, .load true 5 (.tmp 3)⟩ (
 .step ⟨(some 11), none, .mov (.tmp 1)⟩ (
 .step ⟨(some 20), none, .mov (.tmp 1)⟩ (
 .ev ⟨(some 12), none, .call (.fn 50) [(.tmp 10), (.tmp 11)]⟩ [⟨(some 9), none, .load true 5 (.tmp 3)⟩] (
 .step ⟨(some 13), none, .mov (.tmp 12)⟩ (
 .step ⟨(some 14), (some (13, true)), .mov (.tmp 2)⟩ (
 .step ⟨(some 15), (some (13, true)), .faddr 1 (.tmp 3)⟩ (
 .step ⟨(some 16), (some (13, true)), .load false 1 (.tmp 15)⟩ (
 .ev ⟨(some 17), (some (13, true)), .call (.fn 58) [(.tmp 14), (.lit (.int .i64 0)), (.tmp 16)]⟩ [⟨(some 15), (some (13, true)), .faddr 1 (.tmp 3)⟩, ⟨(some 10), none, .load true 5 (.tmp 3)⟩, ⟨(some 9), none, .load true 5 (.tmp 3)⟩] (
 .step ⟨(some 18), none, .pick (.tmp 13) (.tmp 17) (.lit (.bool false))⟩ (
 .ev ⟨(some 19), none, .call (.fn 49) [(.tmp 9), (.tmp 18)]⟩ [⟨(some 16), (some (13, true)), .load false 1 (.tmp 15)⟩, ⟨(some 15), (some (13, true)), .faddr 1 (.tmp 3)⟩, ⟨(some 10), none, .load true 5 (.tmp 3)⟩] (
 .ev ⟨(some 21), none, .call (.fn 56) [(.tmp 19), (.tmp 20)]⟩ [⟨(some 16), (some (13, true)), .load false 1 (.tmp 15)⟩, ⟨(some 15), (some (13, true)), .faddr 1 (.tmp 3)⟩, ⟨(some 10), none, .load true 5 (.tmp 3)⟩, ⟨(some 9), none, .load true 5 (.tmp 3)⟩] (
 .ev ⟨(some 8), none, .alloc [(.int .i64 0), (.int .i64 0)]⟩ [⟨(some 16), (some (13, true)), .load false 1 (.tmp 15)⟩, ⟨(some 15), (some (13, true)), .faddr 1 (.tmp 3)⟩, ⟨(some 10), none, .load true 5 (.tmp 3)⟩, ⟨(some 9), none, .load true 5 (.tmp 3)⟩] (
 .ev ⟨none, none, .store 2 (.tmp 8) (.tmp 21)⟩ [] (
 .done)
 (.stop))
 (.stop))
 (.ev ⟨(some 8), none, .alloc [(.int .i64 0), (.int .i64 0)]⟩ [⟨(some 16), (some (13, true)), .load false 1 (.tmp 15)⟩, ⟨(some 15), (some (13, true)), .faddr 1 (.tmp 3)⟩, ⟨(some 10), none, .load true 5 (.tmp 3)⟩, ⟨(some 9), none, .load true 5 (.tmp 3)⟩] (
 .ev ⟨(some 21), none, .call (.fn 56) [(.tmp 19), (.tmp 20)]⟩ [⟨(some 16), (some (13, true)), .load false 1 (.tmp 15)⟩, ⟨(some 15), (some (13, true)), .faddr 1 (.tmp 3)⟩, ⟨(some 10), none, .load true 5 (.tmp 3)⟩, ⟨(some 9), none, .load true 5 (.tmp 3)⟩] (
 .ev ⟨none, none, .store 2 (.tmp 8) (.tmp 21)⟩ [] (
 .done)
 (.stop))
 (.stop))
 (.stop)))
 (.ev ⟨(some 8), none, .alloc [(.int .i64 0), (.int .i64 0)]⟩ [⟨(some 16), (some (13, true)), .load false 1 (.tmp 15)⟩, ⟨(some 15), (some (13, true)), .faddr 1 (.tmp 3)⟩, ⟨(some 10), none, .load true 5 (.tmp 3)⟩, ⟨(some 9), none, .load true 5 (.tmp 3)⟩] (
 .ev ⟨(some 19), none, .call (.fn 49) [(.tmp 9), (.tmp 18)]⟩ [⟨(some 16), (some (13, true)), .load false 1 (.tmp 15)⟩, ⟨(some 15), (some (13, true)), .faddr 1 (.tmp 3)⟩, ⟨(some 10), none, .load true 5 (.tmp 3)⟩] (
 .ev ⟨(some 21), none, .call (.fn 56) [(.tmp 19), (.tmp 20)]⟩ [⟨(some 16), (some (13, true)), .load false 1 (.tmp 15)⟩, ⟨(some 15), (some (13, true)), .faddr 1 (.tmp 3)⟩, ⟨(some 10), none, .load true 5 (.tmp 3)⟩, ⟨(some 9), none, .load true 5 (.tmp 3)⟩] (
 .ev ⟨none, none, .store 2 (.tmp 8) (.tmp 21)⟩ [] (
 .done)
 (.stop))
 (.stop))
 (.stop))
 (.stop))))
 (.ev ⟨(some 8), none, .alloc [(.int .i64 0), (.int .i64 0)]⟩ [⟨(some 16), (some (13, true)), .load false 1 (.tmp 15)⟩, ⟨(some 15), (some (13, true)), .faddr 1 (.tmp 3)⟩, ⟨(some 10), none, .load true 5 (.tmp 3)⟩, ⟨(some 9), none, .load true 5 (.tmp 3)⟩] (
 .ev ⟨(some 17), (some (13, true)), .call (.fn 58) [(.tmp 14), (.lit (.int .i64 0)), (.tmp 16)]⟩ [⟨(some 15), (some (13, true)), .faddr 1 (.tmp 3)⟩, ⟨(some 10), none, .load true 5 (.tmp 3)⟩, ⟨(some 9), none, .load true 5 (.tmp 3)⟩] (
 .step ⟨(some 18), none, .pick (.tmp 13) (.tmp 17) (.lit (.bool false))⟩ (
 .ev ⟨(some 19), none, .call (.fn 49) [(.tmp 9), (.tmp 18)]⟩ [⟨(some 16), (some (13, true)), .load false 1 (.tmp 15)⟩, ⟨(some 15), (some (13, true)), .faddr 1 (.tmp 3)⟩, ⟨(some 10), none, .load true 5 (.tmp 3)⟩] (
 .ev ⟨(some 21), none, .call (.fn 56) [(.tmp 19), (.tmp 20)]⟩ [⟨(some 16), (some (13, true)), .load false 1 (.tmp 15)⟩, ⟨(some 15), (some (13, true)), .faddr 1 (.tmp 3)⟩, ⟨(some 10), none, .load true 5 (.tmp 3)⟩, ⟨(some 9), none, .load true 5 (.tmp 3)⟩] (
 .ev ⟨none, none, .store 2 (.tmp 8) (.tmp 21)⟩ [] (
 .done)
 (.stop))
 (.stop))
 (.stop)))
 (.stop))
 (.stop)))))))
 (.ev ⟨(some 8), none, .alloc [(.int .i64 0), (.int .i64 0)]⟩ [⟨(some 10), none, .load true 5 (.tmp 3)⟩, ⟨(some 9), none, .load true 5 (.tmp 3)⟩] (
 .ev ⟨(some 12), none, .call (.fn 50) [(.tmp 10), (.tmp 11)]⟩ [⟨(some 9), none, .load true 5 (.tmp 3)⟩] (
 .step ⟨(some 13), none, .mov (.tmp 12)⟩ (
 .step ⟨(some 14), (some (13, true)), .mov (.tmp 2)⟩ (
 .step ⟨(some 15), (some (13, true)), .faddr 1 (.tmp 3)⟩ (
 .step ⟨(some 16), (some (13, true)), .load false 1 (.tmp 15)⟩ (
 .ev ⟨(some 17), (some (13, true)), .call (.fn 58) [(.tmp 14), (.lit (.int .i64 0)), (.tmp 16)]⟩ [⟨(some 15), (some (13, true)), .faddr 1 (.tmp 3)⟩, ⟨(some 10), none, .load true 5 (.tmp 3)⟩, ⟨(some 9), none, .load true 5 (.tmp 3)⟩] (
 .step ⟨(some 18), none, .pick (.tmp 13) (.tmp 17) (.lit (.bool false))⟩ (
 .ev ⟨(some 19), none, .call (.fn 49) [(.tmp 9), (.tmp 18)]⟩ [⟨(some 16), (some (13, true)), .load false 1 (.tmp 15)⟩, ⟨(some 15), (some (13, true)), .faddr 1 (.tmp 3)⟩, ⟨(some 10), none, .load true 5 (.tmp 3)⟩] (
 .ev ⟨(some 21), none, .call (.fn 56) [(.tmp 19), (.tmp 20)]⟩ [⟨(some 16), (some (13, true)), .load false 1 (.tmp 15)⟩, ⟨(some 15), (some (13, true)), .faddr 1 (.tmp 3)⟩, ⟨(some 10), none, .load true 5 (.tmp 3)⟩, ⟨(some 9), none, .load true 5 (.tmp 3)⟩] (
 .ev ⟨none, none, .store 2 (.tmp 8) (.tmp 21)⟩ [] (
 .done)
 (.stop))
 (.stop))
 (.stop)))
 (.stop))))))
 (.stop))
 (.stop))))))))
 (.seq (.block 0 (.seq (.reg [⟨(some 23), none, .faddr 1 (.tmp 8)⟩,
 ⟨(some 24), none, .load false 1 (.tmp 23)⟩,
 ⟨(some 25), none, .mov (.tmp 2)⟩,
 ⟨(some 26), none, .bin .lss (.tmp 24) (.tmp 25)⟩,
 ⟨(some 22), none, .mov (.tmp 26)⟩])
 (.cond (.tmp 22) (.seq (.reg [⟨(some 6), none, .mov (.lit (.int .i64 2))⟩,
 ⟨none, none, .store 1 (.tmp 7) (.lit (.int .i64 0))⟩])
 (.ret))
 (.seq (.reg [⟨(some 28), none, .faddr 0 (.tmp 8)⟩,
 ⟨(some 29), none, .load false 1 (.tmp 28)⟩,
 ⟨(some 30), none, .mov (.tmp 2)⟩,
 ⟨(some 31), none, .bin .geq (.tmp 29) (.tmp 30)⟩,
 ⟨(some 27), none, .mov (.tmp 31)⟩])
 (.cond (.tmp 27) (.seq (.reg [⟨(some 6), none, .mov (.lit (.int .i64 0))⟩,
 ⟨none, none, .store 1 (.tmp 7) (.lit (.int .i64 0))⟩])
 (.ret))
 (.skip))))))
 (.seq (.reg [⟨(some 6), none, .mov (.lit (.int .i64 1))⟩,
 ⟨none, none, .store 1 (.tmp 7) (.lit (.int .i64 0))⟩])
 (.ret)))))
theorem k22 : FnC Tryd.prog 22 32 [6, 7] [] [.tmp 6, .cell 7 false 1] c22 3 := ⟨Tryd.f22, _, Tryd.func22, rfl, by decide, rfl, by decide, by kernel_rfl, by kernel_rfl⟩
/-- dipworks/boat.Met -/
def c24 : AC :=
 .seq (.reg [⟨(some 3), none, .box (.tmp 0)⟩,
 ⟨(some 6), none, .alloc [(.int .i64 0)]⟩,
 ⟨(some 7), none, .alloc [(.int .i64 0)]⟩])
 (.seq (.reg [⟨none, none, .defer 48 [(.tmp 7)]⟩])
 (.seq (.draw (.step ⟨(some 12), none, .load true 5 (.tmp 3)⟩ (
 .step ⟨(some 13), none, .load true 5 (.tmp 3)⟩ (
 .step ⟨(some 14), none, .mov (.tmp 1)⟩ (
 .ev ⟨(some 15), none, .call (.fn 50) [(.tmp 13), (.tmp 14)]⟩ [⟨(some 12), none, .load true 5 (.tmp 3)⟩] (
 .step ⟨(some 16), none, .mov (.tmp 15)⟩ (
 .step ⟨(some 17), (some (16, true)), .load true 5 (.tmp 3)⟩ (
 .step ⟨(some 18), (some (16, true)), .mov (.tmp 2)⟩ (
 .ev ⟨(some 19), (some (16, true)), .call (.fn 50) [(.tmp 17), (.tmp 18)]⟩ [⟨(some 13), none, .load true 5 (.tmp 3)⟩, ⟨(some 12), none, .load true 5 (.tmp 3)⟩] (
 .step ⟨(some 20), none, .pick (.tmp 16) (.tmp 19) (.lit (.bool false))⟩ (
 .ev ⟨(some 21), none, .call (.fn 49) [(.tmp 12), (.tmp 20)]⟩ [⟨(some 17), (some (16, true)), .load true 5 (.tmp 3)⟩, ⟨(some 13), none, .load true 5 (.tmp 3)⟩] (
 .step ⟨(some 8), none, .mov (.tmp 21)⟩ (
 .done))
 (.stop)))
 (.stop)))))
 (.stop))))))
 (.seq (.reg [⟨(some 22), none, .mov (.tmp 8)⟩,
 ⟨(some 23), none, .mov (.tmp 1)⟩,
 ⟨(some 24), none, .call (.fn 52) [(.tmp 22), (.tmp 23)]⟩,
 ⟨(some 25), none, .mov (.tmp 8)⟩,
 ⟨(some 26), none, .mov (.tmp 2)⟩,
 ⟨(some 27), none, .call (.fn 52) [(.tmp 25), (.tmp 26)]⟩,
 ⟨(some 9), none, .alloc [(.int .u64 0), (.int .u64 0), (.int .u64 0), (.int .u64 0), (.int .u64 0), (.int .u64 0), (.int .u64 0), (.int .u64 0), (.int .u64 0), (.int .u64 0), (.int .u64 0), (.int .u64 0), (.int .u64 0)]⟩,
 ⟨(some 10), none, .alloc [(.int .u64 0), (.int .u64 0), (.int .u64 0), (.int .u64 0), (.int .u64 0), (.int .u64 0), (.int .u64 0), (.int .u64 0), (.int .u64 0), (.int .u64 0), (.int .u64 0), (.int .u64 0), (.int .u64 0)]⟩,
 ⟨none, none, .store 13 (.tmp 9) (.tmp 24)⟩,
 ⟨none, none, .store 13 (.tmp 10) (.tmp 27)⟩])
 (.seq (.seq (.reg [⟨(some 28), none, .mov (.tmp 8)⟩,
 ⟨(some 29), none, .call (.fn 60) [(.tmp 28), (.lit (.bool false))]⟩])
 (.block 0 (.seq (.gcp)
 (.rangeF (.tmp 29) 30 (.reg [⟨(some 11), none, .mov (.tmp 30)⟩])
 (.block 1 (.seq (.draw (.step ⟨(some 31), none, .mov (.tmp 11)⟩ (
 .step ⟨(some 32), none, .iaddrA 13 1 (.tmp 9) (.tmp 31)⟩ (
 .step ⟨(some 33), none, .load false 1 (.tmp 32)⟩ (
 .step ⟨(some 34), none, .mov (.tmp 11)⟩ (
 .step ⟨(some 35), none, .iaddrA 13 1 (.tmp 10) (.tmp 34)⟩ (
 .step ⟨(some 36), none, .load false 1 (.tmp 35)⟩ (
 .step ⟨(some 37), none, .bin .and (.tmp 33) (.tmp 36)⟩ (
 .step ⟨(some 38), none, .bin .neq (.tmp 37) (.lit (.int .u64 0))⟩ (
 .done))))))))))
 (.cond (.tmp 38) (.seq (.reg [⟨(some 39), none, .mov (.tmp 11)⟩,
 ⟨none, none, .store 1 (.tmp 6) (.tmp 39)⟩,
 ⟨none, none, .store 1 (.tmp 7) (.lit (.int .i64 0))⟩])
 (.ret))
 (.skip))))))))
 (.seq (.reg [⟨none, none, .store 1 (.tmp 6) (.lit (.int .i64 0))⟩,
 ⟨none, none, .store 1 (.tmp 7) (.lit (.int .i64 4))⟩])
 (.ret))))))
theorem k24 : FnC Tryd.prog 24 40 [6, 7] [1000000] [.cell 6 false 1, .cell 7 false 1] c24 3 := ⟨Tryd.f24, _, Tryd.func24, rfl, by decide, rfl, by decide, by kernel_rfl, by kernel_rfl⟩
/-- dipworks/boat.Who -/
def c26 : AC :=
 .seq (.reg [⟨(some 3), none, .box (.tmp 0)⟩,
 ⟨(some 4), none, .box (.tmp 1)⟩,
 ⟨(some 5), none, .box (.tmp 2)⟩,
 ⟨(some 6), none, .mov (.lit (.int .i64 0))⟩,
 ⟨(some 7), none, .mov (.lit (.int .i64 0))⟩,
 ⟨(some 8), none, .alloc [(.int .i64 0)]⟩])
 (.seq (.reg [⟨none, none, .defer 48 [(.tmp 8)]⟩])
 (.seq (.draw (.step ⟨(some 16), none, .load true 5 (.tmp 3)⟩ (
 .step ⟨(some 17), none, .load true 5 (.tmp 3)⟩ (
 .step ⟨(some 18), none, .load false 1 (.tmp 4)⟩ (
 .ev ⟨(some 19), none, .call (.fn 51) [(.tmp 17), (.tmp 18)]⟩ [⟨(some 16), none, .load true 5 (.tmp 3)⟩] (
 .step ⟨(some 20), none, .mov (.tmp 19)⟩ (
 .step ⟨(some 21), (some (20, true)), .load false 1 (.tmp 5)⟩ (
 .step ⟨(some 22), (some (20, true)), .faddr 0 (.tmp 3)⟩ (
 .step ⟨(some 23), (some (20, true)), .load false 1 (.tmp 22)⟩ (
 .step ⟨(some 24), (some (20, true)), .faddr 1 (.tmp 3)⟩ (
 .step ⟨(some 25), (some (20, true)), .load false 1 (.tmp 24)⟩ (
 .step ⟨(some 26), (some (20, true)), .bin .mul (.tmp 23) (.tmp 25)⟩ (
 .step ⟨(some 27), (some (20, true)), .bin .sub (.tmp 26) (.lit (.int .i64 1))⟩ (
 .ev ⟨(some 28), (some (20, true)), .call (.fn 58) [(.tmp 21), (.lit (.int .i64 0)), (.tmp 27)]⟩ [⟨(some 25), (some (20, true)), .load false 1 (.tmp 24)⟩, ⟨(some 24), (some (20, true)), .faddr 1 (.tmp 3)⟩, ⟨(some 23), (some (20, true)), .load false 1 (.tmp 22)⟩, ⟨(some 22), (some (20, true)), .faddr 0 (.tmp 3)⟩, ⟨(some 18), none, .load false 1 (.tmp 4)⟩, ⟨(some 17), none, .load true 5 (.tmp 3)⟩, ⟨(some 16), none, .load true 5 (.tmp 3)⟩] (
 .step ⟨(some 29), none, .pick (.tmp 20) (.tmp 28) (.lit (.bool false))⟩ (
 .ev ⟨(some 30), none, .call (.fn 49) [(.tmp 16), (.tmp 29)]⟩ [⟨(some 25), (some (20, true)), .load false 1 (.tmp 24)⟩, ⟨(some 24), (some (20, true)), .faddr 1 (.tmp 3)⟩, ⟨(some 23), (some (20, true)), .load false 1 (.tmp 22)⟩, ⟨(some 22), (some (20, true)), .faddr 0 (.tmp 3)⟩, ⟨(some 21), (some (20, true)), .load false 1 (.tmp 5)⟩, ⟨(some 18), none, .load false 1 (.tmp 4)⟩, ⟨(some 17), none, .load true 5 (.tmp 3)⟩] (
 .ev ⟨(some 9), none, .alloc [(.pointer none)]⟩ [⟨(some 25), (some (20, true)), .load false 1 (.tmp 24)⟩, ⟨(some 24), (some (20, true)), .faddr 1 (.tmp 3)⟩, ⟨(some 23), (some (20, true)), .load false 1 (.tmp 22)⟩, ⟨(some 22), (some (20, true)), .faddr 0 (.tmp 3)⟩, ⟨(some 21), (some (20, true)), .load false 1 (.tmp 5)⟩, ⟨(some 18), none, .load false 1 (.tmp 4)⟩, ⟨(some 17), none, .load true 5 (.tmp 3)⟩, ⟨(some 16), none, .load true 5 (.tmp 3)⟩] (
 .ev ⟨none, none, .store 1 (.tmp 9) (.tmp 30)⟩ [] (
 .done)
 (.stop))
 (.stop))
 (.ev ⟨(some 9), none, .alloc [(.pointer none)]⟩ [⟨(some 25), (some (20, true)), .load false 1 (.tmp 24)⟩, ⟨(some 24), (some (20, true)), .faddr 1 (.tmp 3)⟩, ⟨(some 23), (some (20, true)), .load false 1 (.tmp 22)⟩, ⟨(some 22), (some (20, true)), .faddr 0 (.tmp 3)⟩, ⟨(some 21), (some (20, true)), .load false 1 (.tmp 5)⟩, ⟨(some 18), none, .load false 1 (.tmp 4)⟩, ⟨(some 17), none, .load true 5 (.tmp 3)⟩, ⟨(some 16), none, .load true 5 (.tmp 3)⟩] (
 .ev ⟨(some 30), none, .call (.fn 49) [(.tmp 16), (.tmp 29)]⟩ [⟨(some 25), (some (20, true)), .load false 1 (.tmp 24)⟩, ⟨(some 24), (some (20, true)), .faddr 1 (.tmp 3)⟩, ⟨(some 23), (some (20, true)), .load false 1 (.tmp 22)⟩, ⟨(some 22), (some (20, true)), .faddr 0 (.tmp 3)⟩, ⟨(some 21), (some (20, true)), .load false 1 (.tmp 5)⟩, ⟨(some 18), none, .load false 1 (.tmp 4)⟩, ⟨(some 17), none, .load true 5 (.tmp 3)⟩] (
 .ev ⟨none, none, .store 1 (.tmp 9) (.tmp 30)⟩ [] (
 .done)
 (.stop))
 (.stop))
 (.stop))))
 (.ev ⟨(some 9), none, .alloc [(.pointer none)]⟩ [⟨(some 25), (some (20, true)), .load false 1 (.tmp 24)⟩, ⟨(some 24), (some (20, true)), .faddr 1 (.tmp 3)⟩, ⟨(some 23), (some (20, true)), .load false 1 (.tmp 22)⟩, ⟨(some 22), (some (20, true)), .faddr 0 (.tmp 3)⟩, ⟨(some 21), (some (20, true)), .load false 1 (.tmp 5)⟩, ⟨(some 18), none, .load false 1 (.tmp 4)⟩, ⟨(some 17), none, .load true 5 (.tmp 3)⟩, ⟨(some 16), none, .load true 5 (.tmp 3)⟩] (
 .ev ⟨(some 28), (some (20, true)), .call (.fn 58) [(.tmp 21), (.lit (.int .i64 0)), (.tmp 27)]⟩ [⟨(some 25), (some (20, true)), .load false 1 (.tmp 24)⟩, ⟨(some 24), (some (20, true)), .faddr 1 (.tmp 3)⟩, ⟨(some 23), (some (20, true)), .load false 1 (.tmp 22)⟩, ⟨(some 22), (some (20, true)), .faddr 0 (.tmp 3)⟩, ⟨(some 18), none, .load false 1 (.tmp 4)⟩, ⟨(some 17), none, .load true 5 (.tmp 3)⟩, ⟨(some 16), none, .load true 5 (.tmp 3)⟩] (
 .step ⟨(some 29), none, .pick (.tmp 20) (.tmp 28) (.lit (.bool false))⟩ (
 .ev ⟨(some 30), none, .call (.fn 49) [(.tmp 16), (.tmp 29)]⟩ [⟨(some 25), (some (20, true)), .load false 1 (.tmp 24)⟩, ⟨(some 24), (some (20, true)), .faddr 1 (.tmp 3)⟩, ⟨(some 23), (some (20, true)), .load false 1 (.tmp 22)⟩, ⟨(some 22), (some (20, true)), .faddr 0 (.tmp 3)⟩, ⟨(some 21), (some (20, true)), .load false 1 (.tmp 5)⟩, ⟨(some 18), none, .load false 1 (.tmp 4)⟩, ⟨(some 17), none, .load true 5 (.tmp 3)⟩] (
 .ev ⟨none, none, .store 1 (.tmp 9) (.tmp 30)⟩ [] (
 .done)
 (.stop))
 (.stop)))
 (.stop))
 (.stop)))))))))))
 (.ev ⟨(some 9), none, .alloc [(.pointer none)]⟩ [⟨(some 18), none, .load false 1 (.tmp 4)⟩, ⟨(some 17), none, .load true 5 (.tmp 3)⟩, ⟨(some 16), none, .load true 5 (.tmp 3)⟩] (
 .ev ⟨(some 19), none, .call (.fn 51) [(.tmp 17), (.tmp 18)]⟩ [⟨(some 16), none, .load true 5 (.tmp 3)⟩] (
 .step ⟨(some 20), none, .mov (.tmp 19)⟩ (
 .step ⟨(some 21), (some (20, true)), .load false 1 (.tmp 5)⟩ (
 .step ⟨(some 22), (some (20, true)), .faddr 0 (.tmp 3)⟩ (
 .step ⟨(some 23), (some (20, true)), .load false 1 (.tmp 22)⟩ (
 .step ⟨(some 24), (some (20, true)), .faddr 1 (.tmp 3)⟩ (
 .step ⟨(some 25), (some (20, true)), .load false 1 (.tmp 24)⟩ (
 .step ⟨(some 26), (some (20, true)), .bin .mul (.tmp 23) (.tmp 25)⟩ (
 .step ⟨(some 27), (some (20, true)), .bin .sub (.tmp 26) (.lit (.int .i64 1))⟩ (
 .ev ⟨(some 28), (some (20, true)), .call (.fn 58) [(.tmp 21), (.lit (.int .i64 0)), (.tmp 27)]⟩ [⟨(some 25), (some (20, true)), .load false 1 (.tmp 24)⟩, ⟨(some 24), (some (20, true)), .faddr 1 (.tmp 3)⟩, ⟨(some 23), (some (20, true)), .load false 1 (.tmp 22)⟩, ⟨(some 22), (some (20, true)), .faddr 0 (.tmp 3)⟩, ⟨(some 18), none, .load false 1 (.tmp 4)⟩, ⟨(some 17), none, .load true 5 (.tmp 3)⟩, ⟨(some 16), none, .load true 5 (.tmp 3)⟩] (
 .step ⟨(some 29), none, .pick (.tmp 20) (.tmp 28) (.lit (.bool false))⟩ (
 .ev ⟨(some 30), none, .call (.fn 49) [(.tmp 16), (.tmp 29)]⟩ [⟨(some 25), (some (20, true)), .load false 1 (.tmp 24)⟩, ⟨(some 24), (some (20, true)), .faddr 1 (.tmp 3)⟩, ⟨(some 23), (some (20, true)), .load false 1 (.tmp 22)⟩, ⟨(some 22), (some (20, true)), .faddr 0 (.tmp 3)⟩, ⟨(some 21), (some (20, true)), .load false 1 (.tmp 5)⟩, ⟨(some 18), none, .load false 1 (.tmp 4)⟩, ⟨(some 17), none, .load true 5 (.tmp 3)⟩] (
 .ev ⟨none, none, .store 1 (.tmp 9) (.tmp 30)⟩ [] (
 .done)
 (.stop))
 (.stop)))
 (.stop))))))))))
 (.stop))
 (.stop)))))))
 (.seq (.reg [⟨(some 10), none, .alloc [.nilFunc]⟩,
 ⟨(some 11), none, .alloc [.nilFunc]⟩,
 ⟨none, none, .store 1 (.tmp 10) (.fn 64)⟩,
 ⟨none, none, .store 1 (.tmp 11) (.fn 65)⟩])
 (.seq (.reg [⟨(some 12), none, .alloc [(.int .i64 0)]⟩,
 ⟨(some 13), none, .alloc [(.int .i64 0)]⟩,
 ⟨none, none, .store 1 (.tmp 12) (.lit (.int .i64 0))⟩,
 ⟨none, none, .store 1 (.tmp 13) (.lit (.int .i64 0))⟩])
 (.seq (.reg [⟨(some 31), none, .mkfn (.func 66) [] [(.tmp 9), (.tmp 4), (.tmp 10), (.tmp 5), (.tmp 13), (.tmp 11), (.tmp 12)]⟩,
 ⟨(some 14), none, .mov (.tmp 31)⟩])
 (.seq (.seq (.reg [⟨(some 32), none, .faddr 4 (.tmp 3)⟩,
 ⟨(some 33), none, .load false 1 (.tmp 32)⟩,
 ⟨(some 34), none, .len (.tmp 33)⟩,
 ⟨(some 35), none, .mov (.lit (.int .i64 0))⟩])
 (.block 0 (.loop (.seq (.reg [⟨(some 36), none, .bin .lss (.tmp 35) (.tmp 34)⟩])
 (.seq (.cond (.tmp 36) (.skip)
 (.exit 0))
 (.seq (.block 1 (.seq (.reg [⟨(some 37), none, .mov (.tmp 35)⟩,
 ⟨(some 15), none, .mov (.tmp 37)⟩])
 (.reg [⟨(some 38), none, .mov (.tmp 14)⟩,
 ⟨(some 39), none, .mov (.tmp 15)⟩,
 ⟨(some 40), none, .call (.tmp 38) [(.tmp 39)]⟩])))
 (.reg [⟨(some 41), none, .bin .add (.tmp 35) (.lit (.int .i64 1))⟩,
 ⟨(some 35), none, .mov (.tmp 41)⟩])))))))
 (.seq (.draw (.step ⟨(some 42), none, .load false 1 (.tmp 12)⟩ (
 .step ⟨(some 43), none, .load false 1 (.tmp 13)⟩ (
 .ev ⟨(some 6), none, .mov (.tmp 42)⟩ [⟨(some 43), none, .load false 1 (.tmp 13)⟩] (
 .ev ⟨(some 7), none, .mov (.tmp 43)⟩ [] (
 .ev ⟨none, none, .store 1 (.tmp 8) (.lit (.int .i64 0))⟩ [] (
 .done)
 (.stop))
 (.stop))
 (.stop)))))
 (.ret))))))))
theorem k26 : FnC Tryd.prog 26 44 [6, 7, 8] [] [.tmp 6, .tmp 7, .cell 8 false 1] c26 3 := ⟨Tryd.f26, _, Tryd.func26, rfl, by decide, rfl, by decide, by kernel_rfl, by kernel_rfl⟩
/-- dipworks/boat.Speed -/
def c28 : AC :=
 .seq (.reg [⟨(some 2), none, .box (.tmp 0)⟩,
 ⟨(some 3), none, .box (.tmp 1)⟩,
 ⟨(some 4), none, .mov (.lit (.int .i64 0))⟩,
 ⟨(some 5), none, .alloc [(.int .i64 0)]⟩])
 (.seq (.reg [⟨none, none, .defer 48 [(.tmp 5)]⟩])
 (.seq (.draw (.step ⟨(some 9), none, .load true 5 (.tmp 2)⟩ (
 .step ⟨(some 10), none, .load true 5 (.tmp 2)⟩ (
 .step ⟨(some 11), none, .load false 1 (.tmp 3)⟩ (
 .ev ⟨(some 12), none, .call (.fn 50) [(.tmp 10), (.tmp 11)]⟩ [⟨(some 9), none, .load true 5 (.tmp 2)⟩] (
 .ev ⟨(some 13), none, .call (.fn 49) [(.tmp 9), (.tmp 12)]⟩ [⟨(some 11), none, .load false 1 (.tmp 3)⟩, ⟨(some 10), none, .load true 5 (.tmp 2)⟩] (
 .ev ⟨(some 6), none, .alloc [(.pointer none)]⟩ [⟨(some 11), none, .load false 1 (.tmp 3)⟩, ⟨(some 10), none, .load true 5 (.tmp 2)⟩, ⟨(some 9), none, .load true 5 (.tmp 2)⟩] (
 .ev ⟨none, none, .store 1 (.tmp 6) (.tmp 13)⟩ [] (
 .done)
 (.stop))
 (.stop))
 (.ev ⟨(some 6), none, .alloc [(.pointer none)]⟩ [⟨(some 11), none, .load false 1 (.tmp 3)⟩, ⟨(some 10), none, .load true 5 (.tmp 2)⟩, ⟨(some 9), none, .load true 5 (.tmp 2)⟩] (
 .ev ⟨(some 13), none, .call (.fn 49) [(.tmp 9), (.tmp 12)]⟩ [⟨(some 11), none, .load false 1 (.tmp 3)⟩, ⟨(some 10), none, .load true 5 (.tmp 2)⟩] (
 .ev ⟨none, none, .store 1 (.tmp 6) (.tmp 13)⟩ [] (
 .done)
 (.stop))
 (.stop))
 (.stop)))
 (.ev ⟨(some 6), none, .alloc [(.pointer none)]⟩ [⟨(some 11), none, .load false 1 (.tmp 3)⟩, ⟨(some 10), none, .load true 5 (.tmp 2)⟩, ⟨(some 9), none, .load true 5 (.tmp 2)⟩] (
 .ev ⟨(some 12), none, .call (.fn 50) [(.tmp 10), (.tmp 11)]⟩ [⟨(some 9), none, .load true 5 (.tmp 2)⟩] (
 .ev ⟨(some 13), none, .call (.fn 49) [(.tmp 9), (.tmp 12)]⟩ [⟨(some 11), none, .load false 1 (.tmp 3)⟩, ⟨(some 10), none, .load true 5 (.tmp 2)⟩] (
 .ev ⟨none, none, .store 1 (.tmp 6) (.tmp 13)⟩ [] (
 .done)
 (.stop))
 (.stop))
 (.stop))
 (.stop)))))))
 (.seq (.seq (.gcp)
 (.reg [⟨(some 15), none, .call (.fn 70) [(.lit (.int .i64 3))]⟩,
 ⟨(some 16), none, .mkfn (.func 71) [] [(.tmp 6), (.tmp 3)]⟩,
 ⟨(some 17), none, .build [.nilFunc] [(0, 1, (.tmp 16))]⟩,
 ⟨(some 18), none, .call (.fn 69) [(.tmp 15), (.tmp 17)]⟩,
 ⟨(some 14), none, .mov (.tmp 18)⟩,
 ⟨(some 19), none, .ext (.tmp 14) 0⟩,
 ⟨(some 20), none, .ext (.tmp 14) 1⟩,
 ⟨(some 7), none, .mov (.tmp 19)⟩,
 ⟨(some 8), none, .mov (.tmp 20)⟩]))
 (.seq (.reg [⟨(some 21), none, .mov (.tmp 8)⟩,
 ⟨(some 22), none, .call (.fn 73) [(.tmp 21), (.lit (.int .i64 4))]⟩])
 (.seq (.reg [⟨(some 23), none, .mov (.tmp 7)⟩,
 ⟨(some 4), none, .mov (.tmp 23)⟩,
 ⟨none, none, .store 1 (.tmp 5) (.lit (.int .i64 0))⟩])
 (.ret))))))
theorem k28 : FnC Tryd.prog 28 24 [4, 5] [3] [.tmp 4, .cell 5 false 1] c28 2 := ⟨Tryd.f28, _, Tryd.func28, rfl, by decide, rfl, by decide, by kernel_rfl, by kernel_rfl⟩
end Go.Proofs.YtafcdpmcmmfbhaaDoor

/- Package boat: Can, Rows, Nearest, Broke. -/
namespace Go.Proofs.YtafcdpmcmmfbhaaDoor
open Go Go.Ab

def oneE (a e : Int) : Out := .ret (.tup [.t (vi a), .t (vi e)])
def twoE (a b e : Int) : Out := .ret (.tup [.t (vi a), .t (vi b), .t (vi e)])
def spanE (d : Sp) (e : Int) : Out := .ret (.tup [.t (tSp d), .t (vi e)])
/-- Where a boat can be in a minute. -/
def canM (b : Bo) (boat m : Nat) : Nat := (logQ b (plainQ b boat)).getD m 0
abbrev isT (b : Bo) (boat : Nat) : Bool := canQ b (plainQ b boat)
def specCan (b : Bo) (boat m : Int) : Int × Int := if b.ok then (if b.isBoat boat && b.isMinute m then (if isT b boat.toNat then ((canM b boat.toNat m.toNat : Nat), 0) else (0, 10)) else (0, 2)) else (0, 1)
theorem canM_lt {b : Bo} (hb : b.OK) (boat m : Nat) : canM b boat m < B48 := by
  unfold canM
  by_cases h : m < 13
  · exact logQ_lt hb _ _ (List.mem_of_getElem? (log_at hb _ h))
  · rw [List.getD_eq_getElem?_getD, List.getElem?_eq_none (by rw [logQ_len hb]; omega)]
    exact Nat.two_pow_pos 48
theorem nat_of {n : Int} (h : 0 ≤ n) : ((n.toNat : Nat) : Int) = n := by omega

set_option maxRecDepth 8000 in
set_option maxHeartbeats 4000000 in
theorem Can_ok (b : Bo) (hl : Lens b) (boat m : Int) : ACall Tryd.prog 16 [.t (.agg (bo5 b)), .t (vi boat), .t (vi m)] [] (res (oneE (specCan b boat m).1 (specCan b boat m).2)) := by
  refine ACall.walkD k16 ?_
  have h50 := isBoat_ok b hl boat
  have h51 := isMinute_ok b m
  have hop := fun is (σ : List AO) (R : Lz (Out → List AO → Prop)) h1 h2 h3 => openL (σ := σ) (R := R) b is hl h1 h2 h3
  unfold c16
  have main : ∀ (is : Bool) (env : List (Nat × E)), is = (b.isBoat boat && b.isMinute m) → True := fun _ _ _ => trivial
  unfold bo5 at h50 h51 hop ⊢
  simp only [go_sem, Nat.reduceEqDiff, Nat.reduceAdd]
  refine ACallL.quiet1 h50 rfl rfl rfl ?_
  cases hB : b.isBoat boat
  · simp only [go_sem, Nat.reduceEqDiff, Nat.reduceAdd, undef, undef]
    refine hop _ _ _ (fun hok => ?_) (fun hok _ => ?_) (fun hok h => by cases h)
    · simp only [go_sem, Nat.reduceEqDiff]
      refine finDL_pan rfl rfl ((answer_pan rfl).mono fun σ' h => ?_)
      subst h
      exact ⟨_, rfl, [], rfl, rfl, res_mk (by simp only [specCan, hok]; rfl)⟩
    · simp only [go_sem, Nat.reduceEqDiff]
      refine finDL_pan rfl rfl ((answer_pan rfl).mono fun σ' h => ?_)
      subst h
      exact ⟨_, rfl, [], rfl, rfl, res_mk (by simp only [specCan, hok, hB]; rfl)⟩
  simp only [go_sem, Nat.reduceEqDiff, Nat.reduceAdd, beq_self_eq_true]
  refine ACallL.quiet1 h51 rfl rfl rfl ?_
  simp only [go_sem, Nat.reduceEqDiff, Nat.reduceAdd]
  refine hop _ _ _ (fun hok => ?_) (fun hok hM => ?_) (fun hok hM => ?_)
  · simp only [go_sem, Nat.reduceEqDiff]
    refine finDL_pan rfl rfl ((answer_pan rfl).mono fun σ' h => ?_)
    subst h
    exact ⟨_, rfl, [], rfl, rfl, res_mk (by simp only [specCan, hok]; rfl)⟩
  · simp only [go_sem, Nat.reduceEqDiff]
    refine finDL_pan rfl rfl ((answer_pan rfl).mono fun σ' h => ?_)
    subst h
    exact ⟨_, rfl, [], rfl, rfl, res_mk (by simp only [specCan, hok, hB, hM]; rfl)⟩
  have hb := (b.ok_iff).1 hok
  obtain ⟨b1, b2⟩ := isBoat_iff.1 hB
  obtain ⟨m1, m2⟩ := isMinute_iff.1 hM
  have hL := hb.L
  have hs : specCan b boat m = if canQ b (plainQ b boat.toNat) then (((canM b boat.toNat m.toNat : Nat) : Int), 0) else (0, 10) := by
    unfold specCan
    rw [hok, hB, hM]; rfl
  obtain ⟨B, rfl⟩ : ∃ n : Nat, boat = n := ⟨boat.toNat, by omega⟩
  obtain ⟨M, rfl⟩ : ∃ n : Nat, m = n := ⟨m.toNat, by omega⟩
  rw [Int.toNat_natCast, Int.toNat_natCast] at hs
  have h52 := told_ok b hb B (by omega) (MapOK.nil b) (clk := 0)
  unfold toldO at h52
  have hat := log_at hb (plainQ b B) (m := M) (by omega)
  have hz := canM_lt hb B M
  have hlen := logQ_len hb (plainQ b B)
  rw [hs]
  unfold canM at hz ⊢
  generalize canQ b (plainQ b B) = c at *
  generalize logQ b (plainQ b B) = LQ at *
  generalize LQ.getD M 0 = z at *
  have hz' : z < 281474976710656 := hz
  have hw : IntKind.i64.wrap (z : Int) = z := wrap_id (by omega) (by omega)
  have hM13 : (M : Int) < 13 := by omega
  simp only [go_sem, Nat.reduceEqDiff, Nat.reduceAdd, undef, beq_self_eq_true, undef]
  refine lend1 (m := 2) h52 rfl rfl rfl ?_
  rintro o a ⟨rfl, ks2, xs2, clk2, M2, rfl⟩
  cases c
  · simp only [go_sem, Nat.reduceEqDiff, Out.ren, AO.ren]
    refine finDL_pan rfl rfl ((answer_pan rfl).mono fun σ' h => ?_)
    subst h
    exact ⟨_, rfl, [], rfl, rfl, res_mk rfl⟩
  · simp only [go_sem, Nat.reduceEqDiff, Nat.reduceLeDiff, undef, undef, Out.ren, E.ren, AO.ren, List.length_map, hlen, List.getElem?_map, hat, Option.map_some, hM13, hw, Nat.mul_one]
    refine finDL_ret rfl rfl (answer_none.mono fun σ' h => ?_)
    subst h
    exact ⟨_, rfl, [], rfl, rfl, res_mk rfl⟩
end Go.Proofs.YtafcdpmcmmfbhaaDoor

/- What following a boat comes to: where it can be is where it is in some truth. Plain laws. -/
namespace Go.Proofs.YtafcdpmcmmfbhaaDoor
open Go Go.Ab

/-! ### The passes -/
def Fm (b : Bo) (q : Qu) (l : List Si) : Nat → Nat
  | 0 => allM b &&& heldM b q l 0 (allM b)
  | m + 1 => allM b &&& heldM b q l (m + 1) (stepsM b q.speed (Fm b q l m))
def Bk (b : Bo) (q : Qu) (l : List Si) : Nat → Nat
  | 0 => Fm b q l b.L &&& heldM b q l b.L (allM b)
  | k + 1 => Fm b q l (b.L - (k + 1)) &&& heldM b q l (b.L - (k + 1)) (stepsM b q.speed (Bk b q l k))
theorem stM_fwd (b : Bo) (hb : b.OK) (q : Qu) (l : List Si) : ∀ i ≤ b.L + 1, (stM b q l false (List.replicate 13 (allM b)) i).1 = (List.range 13).map (fun m => if m < i then Fm b q l m else allM b) ∧
    (stM b q l false (List.replicate 13 (allM b)) i).2 = (match i with | 0 => allM b | i + 1 => stepsM b q.speed (Fm b q l i))
  | 0, _ => by
    refine ⟨?_, rfl⟩
    show List.replicate 13 (allM b) = _
    simp only [Nat.not_lt_zero, if_false]
    rfl
  | i + 1, hi => by
    obtain ⟨h1, h2⟩ := stM_fwd b hb q l i (by omega)
    have hL := hb.L.1
    rw [stM_succ (by omega)]
    have hm : minN b false i = i := rfl
    rw [hm]
    have hg : (stM b q l false (List.replicate 13 (allM b)) i).1.getD i 0 = allM b := by
      rw [h1, List.getD_eq_getElem?_getD, List.getElem?_map, List.getElem?_range (by omega), Option.map_some, if_neg (by omega)]; rfl
    have hF : (stM b q l false (List.replicate 13 (allM b)) i).1.getD i 0 &&& heldM b q l i (stM b q l false (List.replicate 13 (allM b)) i).2 = Fm b q l i := by
      rw [hg, h2]
      cases i <;> rfl
    unfold roundM
    simp only
    rw [hF]
    refine ⟨?_, rfl⟩
    rw [h1]
    apply List.ext_getElem?
    intro j
    by_cases e : i = j
    · subst e
      rw [List.getElem?_set_self (by simp; omega), List.getElem?_map, List.getElem?_range (by omega), Option.map_some, if_pos (by omega)]
    · rw [List.getElem?_set_ne e, List.getElem?_map, List.getElem?_map]
      by_cases hj : j < 13
      · rw [List.getElem?_range hj, Option.map_some, Option.map_some]
        congr 1
        by_cases c : j < i
        · rw [if_pos c, if_pos (by omega)]
        · rw [if_neg c, if_neg (by omega)]
      · rw [List.getElem?_eq_none (by simp; omega)]; rfl
theorem fwd_is (b : Bo) (hb : b.OK) (q : Qu) (l : List Si) : passM b q l false (List.replicate 13 (allM b)) = (List.range 13).map (fun m => if m < b.L + 1 then Fm b q l m else allM b) := by
  rw [← stM_last]
  exact (stM_fwd b hb q l (b.L + 1) (Nat.le_refl _)).1
theorem stM_bwd (b : Bo) (hb : b.OK) (q : Qu) (l : List Si) : ∀ i ≤ b.L + 1, (stM b q l true ((List.range 13).map (fun m => if m < b.L + 1 then Fm b q l m else allM b)) i).1 = (List.range 13).map (fun m => if m < b.L + 1 then (if b.L < m + i then Bk b q l (b.L - m) else Fm b q l m) else allM b) ∧
    (stM b q l true ((List.range 13).map (fun m => if m < b.L + 1 then Fm b q l m else allM b)) i).2 = (match i with | 0 => allM b | i + 1 => stepsM b q.speed (Bk b q l i))
  | 0, _ => by
    refine ⟨?_, rfl⟩
    unfold stM
    rw [List.take_zero, List.foldl_nil]
    apply List.map_congr_left
    intro m _
    by_cases c : m < b.L + 1
    · rw [if_pos c, if_pos c, if_neg (by omega)]
    · rw [if_neg c, if_neg c]
  | i + 1, hi => by
    obtain ⟨h1, h2⟩ := stM_bwd b hb q l i (by omega)
    have hL := hb.L.1
    rw [stM_succ (by omega)]
    have hm : minN b true i = b.L - i := rfl
    rw [hm]
    generalize hst : stM b q l true ((List.range 13).map (fun m => if m < b.L + 1 then Fm b q l m else allM b)) i = st at *
    have hg : st.1.getD (b.L - i) 0 = Fm b q l (b.L - i) := by
      rw [h1, List.getD_eq_getElem?_getD, List.getElem?_map, List.getElem?_range (by omega), Option.map_some, if_pos (by omega), if_neg (by omega)]; rfl
    have hF : st.1.getD (b.L - i) 0 &&& heldM b q l (b.L - i) st.2 = Bk b q l i := by
      rw [hg, h2]
      cases i <;> rfl
    unfold roundM
    simp only
    rw [hF]
    refine ⟨?_, rfl⟩
    rw [h1]
    apply List.ext_getElem?
    intro j
    by_cases e : b.L - i = j
    · subst e
      rw [List.getElem?_set_self (by simp; omega), List.getElem?_map, List.getElem?_range (by omega), Option.map_some, if_pos (by omega), if_pos (by omega), show b.L - (b.L - i) = i by omega]
    · rw [List.getElem?_set_ne e, List.getElem?_map, List.getElem?_map]
      by_cases hj : j < 13
      · rw [List.getElem?_range hj, Option.map_some, Option.map_some]
        congr 1
        by_cases c : j < b.L + 1
        · rw [if_pos c, if_pos c]
          by_cases c2 : b.L < j + i
          · rw [if_pos c2, if_pos (by omega)]
          · rw [if_neg c2, if_neg (by omega)]
        · rw [if_neg c, if_neg c]
      · rw [List.getElem?_eq_none (by simp; omega)]; rfl
/-- Where a boat can be. -/
def canAt (b : Bo) (q : Qu) (m : Nat) : Nat := (logQ b q).getD m 0
theorem canAt_is {b : Bo} (hb : b.OK) (q : Qu) {m : Nat} (hm : m ≤ b.L) : canAt b q m = Bk b q (b.seen.getD q.boat []) (b.L - m) := by
  unfold canAt logQ followM
  rw [fwd_is b hb, ← stM_last, (stM_bwd b hb q _ (b.L + 1) (Nat.le_refl _)).1, List.getD_eq_getElem?_getD, List.getElem?_map, List.getElem?_range (by have := hb.L.1; omega), Option.map_some, if_pos (by omega), if_pos (by omega)]
  rfl
theorem canAt_past {b : Bo} (hb : b.OK) (q : Qu) {m : Nat} (hm : b.L < m) (h13 : m < 13) : canAt b q m = allM b := by
  unfold canAt logQ followM
  rw [fwd_is b hb, ← stM_last, (stM_bwd b hb q _ (b.L + 1) (Nat.le_refl _)).1, List.getD_eq_getElem?_getD, List.getElem?_map, List.getElem?_range h13, Option.map_some, if_neg (by omega)]
  rfl

/-! ### Steps -/
def dist (b : Bo) (i j : Nat) : Nat := (i % b.W - j % b.W) + (j % b.W - i % b.W) + ((i / b.W - j / b.W) + (j / b.W - i / b.W))
theorem dist_comm (b : Bo) (i j : Nat) : dist b i j = dist b j i := by unfold dist; omega
theorem dist_self (b : Bo) (i : Nat) : dist b i i = 0 := by unfold dist; omega
theorem dist_tri (b : Bo) (i j k : Nat) : dist b i k ≤ dist b i j + dist b j k := by unfold dist; omega
theorem dist_zero {b : Bo} {i j : Nat} (h : dist b i j = 0) : i = j := by
  unfold dist at h
  have h1 : i % b.W = j % b.W := by omega
  have h2 : i / b.W = j / b.W := by omega
  rw [← Nat.div_add_mod i b.W, ← Nat.div_add_mod j b.W, h1, h2]
/-- What is within the water. -/
def In (b : Bo) (p : Nat) : Prop := ∀ i, p.testBit i = true → i < b.N
theorem allM_bit (b : Bo) (i : Nat) : (allM b).testBit i = decide (i < b.N) := by show (maskOf _ _).testBit i = _; rw [maskOf_bit, Bool.and_true]
theorem left_bit (b : Bo) (i : Nat) : (leftM b).testBit i = (decide (i < b.N) && decide (i % b.W = 0)) := maskOf_bit _ _ _
theorem right_bit (b : Bo) (i : Nat) : (rightM b).testBit i = (decide (i < b.N) && decide (i % b.W = b.W - 1)) := maskOf_bit _ _ _
theorem row_lt {b : Bo} (hb : b.OK) {i : Nat} (h : i < b.N) : i % b.W < b.W ∧ i / b.W < b.D := by
  have hW := hb.W.1
  exact ⟨Nat.mod_lt _ (by omega), Nat.div_lt_of_lt_mul h⟩
theorem uniq {W r c r' c' : Nat} (hc : c < W) (hc' : c' < W) : r * W + c = r' * W + c' ↔ r = r' ∧ c = c' := by
  rw [pos_eq hc, (pos_of hc').1, (pos_of hc').2]
  constructor <;> rintro ⟨h1, h2⟩ <;> exact ⟨h1.symm, h2.symm⟩
theorem coord {b : Bo} (hb : b.OK) (i : Nat) : i = i / b.W * b.W + i % b.W := by rw [Nat.mul_comm]; exact (Nat.div_add_mod i b.W).symm
/-- Neighbours. -/
theorem near_iff {b : Bo} (hb : b.OK) {i j : Nat} (hi : i < b.N) (hj : j < b.N) : dist b i j ≤ 1 ↔ j = i ∨ (j = i + 1 ∧ j % b.W ≠ 0) ∨ (i = j + 1 ∧ j % b.W ≠ b.W - 1) ∨ j = i + b.W ∨ i = j + b.W := by
  obtain ⟨i1, i2⟩ := row_lt hb hi
  obtain ⟨j1, j2⟩ := row_lt hb hj
  have ei := coord hb i
  have ej := coord hb j
  unfold dist
  generalize i % b.W = ci at *
  generalize i / b.W = ri at *
  generalize j % b.W = cj at *
  generalize j / b.W = rj at *
  subst ei ej
  clear hi hj
  have q1 : rj * b.W + cj = ri * b.W + ci ↔ rj = ri ∧ cj = ci := uniq j1 i1
  have q2 : (rj * b.W + cj = ri * b.W + ci + 1 ∧ cj ≠ 0) ↔ rj = ri ∧ cj = ci + 1 := by
    constructor
    · rintro ⟨h1, h2⟩
      have := (uniq (r := rj) (c := cj - 1) (r' := ri) (c' := ci) (by omega) i1).1 (by omega)
      omega
    · rintro ⟨h1, h2⟩
      rw [h1, h2]; omega
  have q3 : (ri * b.W + ci = rj * b.W + cj + 1 ∧ cj ≠ b.W - 1) ↔ ri = rj ∧ ci = cj + 1 := by
    constructor
    · rintro ⟨h1, h2⟩
      exact (uniq (r := ri) (c := ci) (r' := rj) (c' := cj + 1) i1 (by omega)).1 (by omega)
    · rintro ⟨h1, h2⟩
      rw [h1, h2]; omega
  have q4 : rj * b.W + cj = ri * b.W + ci + b.W ↔ rj = ri + 1 ∧ cj = ci := by
    rw [← uniq j1 i1, Nat.add_mul, Nat.one_mul]
    omega
  have q5 : ri * b.W + ci = rj * b.W + cj + b.W ↔ ri = rj + 1 ∧ ci = cj := by
    rw [← uniq i1 j1, Nat.add_mul, Nat.one_mul]
    omega
  rw [q1, q2, q3, q4, q5]
  omega
theorem step_bit {b : Bo} (hb : b.OK) {p : Nat} (hp : In b p) (i : Nat) : (stepM b p).testBit i = true ↔ i < b.N ∧ ∃ j, p.testBit j = true ∧ dist b i j ≤ 1 := by
  unfold stepM
  rw [Nat.testBit_and, allM_bit, orL_bit, Bool.and_eq_true, decide_eq_true_eq]
  refine and_congr_right fun hi => ?_
  have s1 : (ndiff p (leftM b) / 2).testBit i = (p.testBit (i + 1) && !(leftM b).testBit (i + 1)) := by rw [← ndiff_bit, ← Nat.testBit_succ]
  have s2 : (ndiff p (rightM b) <<< 1).testBit i = (decide (i ≥ 1) && (p.testBit (i - 1) && !(rightM b).testBit (i - 1))) := by rw [Nat.testBit_shiftLeft, ndiff_bit]
  simp only [List.any_cons, List.any_nil, Bool.or_false]
  rw [s1, s2, Nat.testBit_div_two_pow, Nat.testBit_shiftLeft, left_bit, right_bit]
  simp only [Bool.or_eq_true, Bool.and_eq_true, Bool.not_eq_true', decide_eq_true_eq, Bool.and_eq_false_iff, decide_eq_false_iff_not]
  constructor
  · rintro (h | ⟨h, h2⟩ | ⟨h0, h, h2⟩ | h | ⟨h0, h⟩)
    · exact ⟨i, h, by rw [dist_self]; omega⟩
    · have hj := hp _ h
      refine ⟨i + 1, h, (near_iff hb hi hj).2 (.inr (.inl ⟨rfl, ?_⟩))⟩
      rcases h2 with h2 | h2
      · exact absurd hj h2
      · exact h2
    · have hj := hp _ h
      refine ⟨i - 1, h, (near_iff hb hi hj).2 (.inr (.inr (.inl ⟨by omega, ?_⟩)))⟩
      rcases h2 with h2 | h2
      · exact absurd hj h2
      · exact h2
    · have hj := hp _ h
      exact ⟨i + b.W, h, (near_iff hb hi hj).2 (.inr (.inr (.inr (.inl rfl))))⟩
    · have hj := hp _ h
      exact ⟨i - b.W, h, (near_iff hb hi hj).2 (.inr (.inr (.inr (.inr (by omega)))))⟩
  · rintro ⟨j, h, hd⟩
    have hj := hp _ h
    rcases (near_iff hb hi hj).1 hd with rfl | ⟨rfl, h2⟩ | ⟨rfl, h2⟩ | rfl | rfl
    · exact .inl h
    · exact .inr (.inl ⟨h, .inr h2⟩)
    · exact .inr (.inr (.inl ⟨by omega, by rw [Nat.add_sub_cancel]; exact h, .inr (by rw [Nat.add_sub_cancel]; exact h2)⟩))
    · exact .inr (.inr (.inr (.inl h)))
    · exact .inr (.inr (.inr (.inr ⟨by omega, by rw [Nat.add_sub_cancel]; exact h⟩)))
theorem In.step {b : Bo} (p : Nat) : In b (stepM b p) := fun i hi => by
  unfold stepM at hi
  rw [Nat.testBit_and, allM_bit, Bool.and_eq_true, decide_eq_true_eq] at hi
  exact hi.1
theorem In.steps {b : Bo} {p : Nat} (hp : In b p) : ∀ k, In b (stepsM b k p)
  | 0 => hp
  | k + 1 => In.step _
/-- Between two places there are steps. -/
theorem between {b : Bo} (hb : b.OK) {i j : Nat} (hi : i < b.N) (hj : j < b.N) {k : Nat} (h : dist b i j ≤ k + 1) : ∃ u, u < b.N ∧ dist b i u ≤ 1 ∧ dist b u j ≤ k := by
  by_cases h0 : dist b i j ≤ k
  · exact ⟨i, hi, by rw [dist_self]; omega, h0⟩
  obtain ⟨i1, i2⟩ := row_lt hb hi
  obtain ⟨j1, j2⟩ := row_lt hb hj
  have mk : ∀ r c, c < b.W → r < b.D → (r * b.W + c < b.N ∧ (r * b.W + c) % b.W = c ∧ (r * b.W + c) / b.W = r) := fun r c hc hr => ⟨pos_lt hc hr, (pos_of hc).2, (pos_of hc).1⟩
  unfold dist at h h0 ⊢
  generalize i % b.W = ci at *
  generalize i / b.W = ri at *
  generalize j % b.W = cj at *
  generalize j / b.W = rj at *
  by_cases c1 : ci < cj
  · obtain ⟨q1, q2, q3⟩ := mk ri (ci + 1) (by omega) i2
    exact ⟨_, q1, by rw [q2, q3]; omega, by rw [q2, q3]; omega⟩
  · by_cases c2 : cj < ci
    · obtain ⟨q1, q2, q3⟩ := mk ri (ci - 1) (by omega) i2
      exact ⟨_, q1, by rw [q2, q3]; omega, by rw [q2, q3]; omega⟩
    · by_cases c3 : ri < rj
      · obtain ⟨q1, q2, q3⟩ := mk (ri + 1) ci i1 (by omega)
        exact ⟨_, q1, by rw [q2, q3]; omega, by rw [q2, q3]; omega⟩
      · obtain ⟨q1, q2, q3⟩ := mk (ri - 1) ci i1 (by omega)
        exact ⟨_, q1, by rw [q2, q3]; omega, by rw [q2, q3]; omega⟩
theorem steps_bit {b : Bo} (hb : b.OK) {p : Nat} (hp : In b p) : ∀ (k i : Nat), (stepsM b k p).testBit i = true ↔ i < b.N ∧ ∃ j, p.testBit j = true ∧ dist b i j ≤ k
  | 0, i => by
    show p.testBit i = true ↔ _
    constructor
    · intro h; exact ⟨hp i h, i, h, by rw [dist_self]; omega⟩
    · rintro ⟨_, j, h, hd⟩
      rw [dist_zero (Nat.le_zero.1 hd)]; exact h
  | k + 1, i => by
    show (stepM b (stepsM b k p)).testBit i = true ↔ _
    rw [step_bit hb (hp.steps k)]
    refine and_congr_right fun hi => ?_
    constructor
    · rintro ⟨u, h, hd⟩
      obtain ⟨_, j, h1, h2⟩ := (steps_bit hb hp k u).1 h
      exact ⟨j, h1, by have := dist_tri b i u j; omega⟩
    · rintro ⟨j, h, hd⟩
      obtain ⟨u, q1, q2, q3⟩ := between hb hi (hp j h) hd
      exact ⟨u, (steps_bit hb hp k u).2 ⟨q1, j, h, q3⟩, q2⟩
end Go.Proofs.YtafcdpmcmmfbhaaDoor

/- Truths of a boat: where it can be in a minute is where it is in some truth. Plain laws. -/
namespace Go.Proofs.YtafcdpmcmmfbhaaDoor
open Go Go.Ab

/-- A boat can be at a place in a minute, by what it is held to then. -/
structure okP (b : Bo) (q : Qu) (l : List Si) (m i : Nat) : Prop where
  lt : i < b.N
  row : q.row ≤ i / b.W
  saw : ∀ s ∈ kept l q.without l.length, s.minute = m → inB b s i = true
theorem and_bit (L : List Nat) : ∀ (x i : Nat), (andL x L).testBit i = true ↔ x.testBit i = true ∧ ∀ y ∈ L, y.testBit i = true := by
  induction L with
  | nil => intro x i; simp [andL]
  | cons y L ih =>
    intro x i
    show (andL (x &&& y) L).testBit i = true ↔ _
    rw [ih, Nat.testBit_and, Bool.and_eq_true]
    simp only [List.mem_cons, forall_eq_or_imp, and_assoc]
theorem at_bit (b : Bo) (m : Nat) (s : Si) {i : Nat} (hi : i < b.N) : (atM b m s).testBit i = true ↔ (s.minute = m → inB b s i = true) := by
  unfold atM
  split
  · rename_i h
    unfold rectM
    rw [maskOf_bit, decide_eq_true hi, Bool.true_and]
    exact ⟨fun h1 _ => h1, fun h1 => h1 h⟩
  · rename_i h
    rw [allM_bit, decide_eq_true hi]
    exact ⟨fun _ h1 => absurd h1 h, fun _ => rfl⟩
theorem row_bit {b : Bo} (hb : b.OK) (n i : Nat) : (rowM b n).testBit i = true ↔ i < b.N ∧ n ≤ i / b.W := by
  rw [rowM_bit, Bool.and_eq_true, decide_eq_true_eq, decide_eq_true_eq, and_comm, Nat.le_div_iff_mul_le (by have := hb.W.1; omega)]
theorem held_bit {b : Bo} (hb : b.OK) (q : Qu) (l : List Si) (m c i : Nat) : (heldM b q l m c).testBit i = true ↔ c.testBit i = true ∧ okP b q l m i := by
  unfold heldM heldL
  rw [and_bit]
  simp only [List.mem_cons, forall_eq_or_imp, List.mem_map, forall_exists_index, and_imp, forall_apply_eq_imp_iff₂, row_bit hb]
  constructor
  · rintro ⟨h1, ⟨h2, h3⟩, h4⟩
    exact ⟨h1, h2, h3, fun s hs => (at_bit b m s h2).1 (h4 s hs)⟩
  · rintro ⟨h1, h2⟩
    exact ⟨h1, ⟨h2.lt, h2.row⟩, fun s hs => (at_bit b m s h2.lt).2 (h2.saw s hs)⟩
/-- A course, in some minutes. -/
structure Goes' (b : Bo) (q : Qu) (l : List Si) (m0 m1 : Nat) (x : Nat → Nat) : Prop where
  ok : ∀ j, m0 ≤ j → j ≤ m1 → okP b q l j (x j)
  near : ∀ j, m0 ≤ j → j < m1 → dist b (x j) (x (j + 1)) ≤ q.speed
abbrev Truth (b : Bo) (q : Qu) (l : List Si) (x : Nat → Nat) : Prop := Goes' b q l 0 b.L x
theorem all_bit_of {b : Bo} {i : Nat} (h : i < b.N) : (allM b).testBit i = true := by rw [allM_bit, decide_eq_true h]
theorem Fm_bit {b : Bo} (hb : b.OK) (q : Qu) (l : List Si) : ∀ (m i : Nat), (Fm b q l m).testBit i = true ↔ ∃ x, Goes' b q l 0 m x ∧ x m = i
  | 0, i => by
    show (allM b &&& heldM b q l 0 (allM b)).testBit i = true ↔ _
    rw [Nat.testBit_and, Bool.and_eq_true, held_bit hb]
    constructor
    · rintro ⟨_, _, h⟩
      exact ⟨fun _ => i, ⟨fun j _ hj => by rw [Nat.le_zero.1 hj]; exact h, fun j _ hj => by omega⟩, rfl⟩
    · rintro ⟨x, h, rfl⟩
      have := h.ok 0 (Nat.le_refl _) (Nat.le_refl _)
      exact ⟨all_bit_of this.lt, all_bit_of this.lt, this⟩
  | m + 1, i => by
    have hin : In b (Fm b q l m) := fun j hj => by
      obtain ⟨x, h, rfl⟩ := (Fm_bit hb q l m j).1 hj
      exact (h.ok m (Nat.zero_le _) (Nat.le_refl _)).lt
    show (allM b &&& heldM b q l (m + 1) (stepsM b q.speed (Fm b q l m))).testBit i = true ↔ _
    rw [Nat.testBit_and, Bool.and_eq_true, held_bit hb, steps_bit hb hin]
    constructor
    · rintro ⟨_, ⟨_, j, hj, hd⟩, h⟩
      obtain ⟨x, hx, rfl⟩ := (Fm_bit hb q l m j).1 hj
      refine ⟨fun k => if k ≤ m then x k else i, ⟨fun k h0 hk => ?_, fun k h0 hk => ?_⟩, by simp only; rw [if_neg (by omega)]⟩
      · by_cases c : k ≤ m
        · rw [if_pos c]; exact hx.ok k h0 c
        · rw [if_neg c, show k = m + 1 by omega]; exact h
      · by_cases c : k < m
        · rw [if_pos (by omega), if_pos (by omega)]; exact hx.near k h0 c
        · rw [if_pos (by omega), if_neg (by omega), show k = m by omega, dist_comm]; exact hd
    · rintro ⟨x, h, rfl⟩
      have h1 := h.ok (m + 1) (Nat.zero_le _) (Nat.le_refl _)
      refine ⟨all_bit_of h1.lt, ⟨h1.lt, x m, (Fm_bit hb q l m _).2 ⟨x, ⟨fun k h0 hk => h.ok k h0 (by omega), fun k h0 hk => h.near k h0 (by omega)⟩, rfl⟩, ?_⟩, h1⟩
      rw [dist_comm]
      exact h.near m (Nat.zero_le _) (by omega)
theorem Bk_bit {b : Bo} (hb : b.OK) (q : Qu) (l : List Si) : ∀ (k i : Nat), k ≤ b.L → ((Bk b q l k).testBit i = true ↔ ∃ x, Truth b q l x ∧ x (b.L - k) = i)
  | 0, i, _ => by
    show (Fm b q l b.L &&& heldM b q l b.L (allM b)).testBit i = true ↔ _
    rw [Nat.testBit_and, Bool.and_eq_true, held_bit hb, Fm_bit hb]
    constructor
    · rintro ⟨h, _⟩; exact h
    · rintro ⟨x, h, e⟩
      have := h.ok b.L (Nat.zero_le _) (Nat.le_refl _)
      rw [Nat.sub_zero] at e
      rw [e] at this
      exact ⟨⟨x, h, e⟩, all_bit_of this.lt, this⟩
  | k + 1, i, hk => by
    have hin : In b (Bk b q l k) := fun j hj => by
      obtain ⟨x, h, rfl⟩ := (Bk_bit hb q l k j (by omega)).1 hj
      exact (h.ok _ (Nat.zero_le _) (by omega)).lt
    show (Fm b q l (b.L - (k + 1)) &&& heldM b q l (b.L - (k + 1)) (stepsM b q.speed (Bk b q l k))).testBit i = true ↔ _
    rw [Nat.testBit_and, Bool.and_eq_true, held_bit hb, Fm_bit hb, steps_bit hb hin]
    constructor
    · rintro ⟨⟨x, hx, hxi⟩, ⟨_, j, hj, hd⟩, h⟩
      obtain ⟨y, hy, hyj⟩ := (Bk_bit hb q l k j (by omega)).1 hj
      refine ⟨fun t => if t ≤ b.L - (k + 1) then x t else y t, ⟨fun t h0 ht => ?_, fun t h0 ht => ?_⟩, by simp only; rw [if_pos (Nat.le_refl _)]; exact hxi⟩
      · by_cases c : t ≤ b.L - (k + 1)
        · rw [if_pos c]; exact hx.ok t h0 c
        · rw [if_neg c]; exact hy.ok t h0 ht
      · by_cases c : t < b.L - (k + 1)
        · rw [if_pos (by omega), if_pos (by omega)]; exact hx.near t h0 c
        · by_cases c2 : t = b.L - (k + 1)
          · subst c2
            rw [if_pos (Nat.le_refl _), if_neg (by omega), hxi, show b.L - (k + 1) + 1 = b.L - k by omega, hyj]; exact hd
          · rw [if_neg (by omega), if_neg (by omega)]; exact hy.near t h0 ht
    · rintro ⟨x, h, rfl⟩
      have h1 := h.ok (b.L - (k + 1)) (Nat.zero_le _) (by omega)
      refine ⟨⟨x, ⟨fun t h0 ht => h.ok t h0 (by omega), fun t h0 ht => h.near t h0 (by omega)⟩, rfl⟩, ⟨h1.lt, x (b.L - k), (Bk_bit hb q l k _ (by omega)).2 ⟨x, h, rfl⟩, ?_⟩, h1⟩
      have := h.near (b.L - (k + 1)) (Nat.zero_le _) (by omega)
      rw [show b.L - (k + 1) + 1 = b.L - k by omega] at this
      exact this
/-- A truth of a question. -/
abbrev TrQ (b : Bo) (q : Qu) (x : Nat → Nat) : Prop := Truth b q (b.seen.getD q.boat []) x
theorem canAt_bit {b : Bo} (hb : b.OK) (q : Qu) {m : Nat} (hm : m ≤ b.L) (i : Nat) : (canAt b q m).testBit i = true ↔ ∃ x, TrQ b q x ∧ x m = i := by
  rw [canAt_is hb q hm, Bk_bit hb q _ _ i (by omega), show b.L - (b.L - m) = m by omega]
theorem ne0_iff (p : Nat) : p ≠ 0 ↔ ∃ i, p.testBit i = true := by
  constructor
  · intro h
    exact ⟨p.log2, Nat.testBit_log2 h⟩
  · rintro ⟨i, h⟩ rfl
    simp at h
theorem canAt_ne0 {b : Bo} (hb : b.OK) (q : Qu) {m : Nat} (hm : m ≤ b.L) : canAt b q m ≠ 0 ↔ ∃ x, TrQ b q x := by
  rw [ne0_iff]
  constructor
  · rintro ⟨i, h⟩
    obtain ⟨x, hx, _⟩ := (canAt_bit hb q hm i).1 h
    exact ⟨x, hx⟩
  · rintro ⟨x, hx⟩
    exact ⟨x m, (canAt_bit hb q hm _).2 ⟨x, hx, rfl⟩⟩
theorem canQ_iff {b : Bo} (hb : b.OK) (q : Qu) : canQ b q = true ↔ ∃ x, TrQ b q x := by
  rw [← canAt_ne0 hb q (Nat.zero_le _)]
  unfold canQ canAt
  simp
theorem canAt_lt {b : Bo} (hb : b.OK) (q : Qu) (m : Nat) : canAt b q m < B48 := by
  unfold canAt
  by_cases h : m < 13
  · exact logQ_lt hb _ _ (List.mem_of_getElem? (log_at hb _ h))
  · rw [List.getD_eq_getElem?_getD, List.getElem?_eq_none (by rw [logQ_len hb]; omega)]
    exact Nat.two_pow_pos 48
/-! ### Rows of places -/
theorem span_lo {b : Bo} {p : Nat} (hp : p < B48) (h0 : p ≠ 0) : (∃ i, p.testBit i = true ∧ i / b.W = loR b p) ∧ ∀ i, p.testBit i = true → loR b p ≤ i / b.W := by
  obtain ⟨h1, h2, _⟩ := tzN_spec hp h0
  refine ⟨⟨_, h1, rfl⟩, fun i hi => ?_⟩
  unfold loR
  apply Nat.div_le_div_right
  apply Classical.byContradiction
  intro c
  rw [h2 i (by omega)] at hi
  cases hi
theorem span_hi {b : Bo} {p : Nat} (h0 : p ≠ 0) : (∃ i, p.testBit i = true ∧ i / b.W = hiR b p) ∧ ∀ i, p.testBit i = true → i / b.W ≤ hiR b p := by
  obtain ⟨h1, h2⟩ := blen_top h0
  exact ⟨⟨_, h1, rfl⟩, fun i hi => Nat.div_le_div_right (h2 i hi)⟩
end Go.Proofs.YtafcdpmcmmfbhaaDoor

/- Package boat: how near a boat came. -/
namespace Go.Proofs.YtafcdpmcmmfbhaaDoor
open Go Go.Ab

/-! ### What is tried: rows, speeds, sets of sightings -/
def rowQ (b : Bo) (boat n : Nat) : Qu := { plainQ b boat with row := n }
def speedQ (boat n : Nat) : Qu := ⟨boat, 0, 0, n⟩
def outQ (b : Bo) (boat set : Nat) : Qu := { plainQ b boat with without := set }
abbrev boxB (boat : Nat) : T := .ptr (.agg [vi boat]) 0

set_option maxRecDepth 8000 in
theorem tryRow_ok (b : Bo) (hb : b.OK) (boat : Nat) (hbo : boat < b.seen.length) (n : Nat) (hn : n ≤ 6) {ks : List (Nat × List Int)} {xs : List T} {clk : Nat} (M : MapOK b ks xs) :
    ACall Tryd.prog 84 [.t (vi n), .vp [waE b 0] 0, .t (boxB boat)] [.map shQ ks xs clk] (waCallR b (.ret (.t (vb (!canQ b (rowQ b boat (n + 1))))))) := by
  refine ACall.walk k84 ?_
  have hq := plainQ_ok hb hbo
  have h76 := plain_ok b hb .hole boat
  have h72 := can_ok b hb (rowQ b boat (n + 1)) ⟨hq.boat, hq.without, by unfold rowQ; simp only; omega, hq.speed⟩ M (clk := clk)
  have hr : rowQ b boat (n + 1) = ⟨(plainQ b boat).boat, (plainQ b boat).without, n + 1, (plainQ b boat).speed⟩ := rfl
  have hwn : IntKind.i64.wrap ((n : Int) + 1) = ((n + 1 : Nat) : Int) := by rw [wrap_id (by omega) (by omega)]; omega
  generalize canQ b (rowQ b boat (n + 1)) = c at *
  rw [hr] at h72
  generalize plainQ b boat = q at *
  obtain ⟨q1, q2, q3, q4⟩ := q
  unfold c84
  simp only [go_sem, Nat.reduceEqDiff, Nat.reduceAdd]
  refine ACallL.weak1 h76 rfl ?_
  simp only [go_sem, Nat.reduceEqDiff, Nat.reduceAdd, Nat.reduceLeDiff, undef, undef, hwn]
  refine lend1 (m := 0) h72 rfl rfl rfl ?_
  rintro o a ⟨rfl, ks2, xs2, clk2, M2, rfl⟩
  simp only [go_sem, Nat.reduceEqDiff, Out.ren, E.ren, AO.ren]
  exact finL_ret [0] ⟨rfl, rfl, rfl, rfl, _, rfl, _, ⟨rfl, ks2, xs2, clk2, M2, rfl⟩, rfl⟩
set_option maxRecDepth 8000 in
theorem trySpeed_ok (b : Bo) (hb : b.OK) (boat : Nat) (hbo : boat < b.seen.length) (n : Nat) (hn : n ≤ 3) {ks : List (Nat × List Int)} {xs : List T} {clk : Nat} (M : MapOK b ks xs) :
    ACall Tryd.prog 71 [.t (vi n), .vp [waE b 0] 0, .t (boxB boat)] [.map shQ ks xs clk] (waCallR b (.ret (.t (vb (canQ b (speedQ boat n)))))) := by
  refine ACall.walk k71 ?_
  have h72 := can_ok b hb (speedQ boat n) ⟨hbo, Nat.zero_lt_succ 63, Nat.zero_le 7, hn⟩ M (clk := clk)
  generalize hc : canQ b (speedQ boat n) = c at *
  unfold speedQ at h72
  unfold c71
  simp only [go_sem, Nat.reduceEqDiff, Nat.reduceAdd, Nat.reduceLeDiff]
  refine lend1 (m := 0) h72 rfl rfl rfl ?_
  rintro o a ⟨rfl, ks2, xs2, clk2, M2, rfl⟩
  simp only [go_sem, Nat.reduceEqDiff, Out.ren, E.ren, AO.ren]
  exact finL_ret [0] ⟨rfl, rfl, rfl, rfl, _, rfl, _, ⟨rfl, ks2, xs2, clk2, M2, rfl⟩, rfl⟩
set_option maxRecDepth 8000 in
theorem tryOut_ok (b : Bo) (hb : b.OK) (boat : Nat) (hbo : boat < b.seen.length) (n : Nat) (hn : n < 64) {ks : List (Nat × List Int)} {xs : List T} {clk : Nat} (M : MapOK b ks xs) :
    ACall Tryd.prog 75 [.t (vi n), .vp [waE b 0] 0, .t (boxB boat)] [.map shQ ks xs clk] (waCallR b (.ret (.t (vb (canQ b (outQ b boat n)))))) := by
  refine ACall.walk k75 ?_
  have hq := plainQ_ok hb hbo
  have h76 := plain_ok b hb .hole boat
  have h72 := can_ok b hb (outQ b boat n) ⟨hq.boat, hn, hq.row, hq.speed⟩ M (clk := clk)
  have hr : outQ b boat n = ⟨(plainQ b boat).boat, n, (plainQ b boat).row, (plainQ b boat).speed⟩ := rfl
  generalize canQ b (outQ b boat n) = c at *
  rw [hr] at h72
  generalize plainQ b boat = q at *
  obtain ⟨q1, q2, q3, q4⟩ := q
  unfold c75
  simp only [go_sem, Nat.reduceEqDiff, Nat.reduceAdd]
  refine ACallL.weak1 h76 rfl ?_
  simp only [go_sem, Nat.reduceEqDiff, Nat.reduceAdd, Nat.reduceLeDiff, undef, undef]
  refine lend1 (m := 0) h72 rfl rfl rfl ?_
  rintro o a ⟨rfl, ks2, xs2, clk2, M2, rfl⟩
  simp only [go_sem, Nat.reduceEqDiff, Out.ren, E.ren, AO.ren]
  exact finL_ret [0] ⟨rfl, rfl, rfl, rfl, _, rfl, _, ⟨rfl, ks2, xs2, clk2, M2, rfl⟩, rfl⟩

theorem gc_ptr {kp : List Nat} {σ : List AO} {id n off : Nat} {ts : List T} (h : pos? kp id = none) (ho : σ[id]? = some (.cells (ts.map E.t))) : E.gc kp σ (n + 2) (.ptr id off) = .t (.ptr (.agg ts) off) := by
  rw [E.gc]
  simp only [h, ho, gc_row, allT_t]

/-! ### How near it came -/
def nearHi (b : Bo) (boat : Nat) : Nat := ((List.range (b.D + 1)).find? fun n => !canQ b (rowQ b boat (n + 1))).getD 0
def nearAll (b : Bo) (boat : Nat) : Nat := orL ((logQ b (plainQ b boat)).take (b.L + 1))
def nearS (b : Bo) (boat : Nat) : Sp := ((loR b (nearAll b boat) : Nat), (nearHi b boat : Nat))
theorem nearAll_bit {b : Bo} (hb : b.OK) (boat i : Nat) : (nearAll b boat).testBit i = true ↔ ∃ m ≤ b.L, (canAt b (plainQ b boat) m).testBit i = true := by
  unfold nearAll
  rw [orL_bit, List.any_eq_true]
  have hlen := logQ_len hb (plainQ b boat)
  have hL := hb.L.1
  constructor
  · rintro ⟨p, hp, h⟩
    obtain ⟨m, hm, e⟩ := List.mem_take_iff_getElem.1 hp
    have hm' : m < b.L + 1 ∧ m < (logQ b (plainQ b boat)).length := by omega
    refine ⟨m, by omega, ?_⟩
    unfold canAt
    rw [List.getD_eq_getElem?_getD, List.getElem?_eq_getElem hm'.2, Option.getD_some, e]; exact h
  · rintro ⟨m, hm, h⟩
    refine ⟨canAt b (plainQ b boat) m, List.mem_take_iff_getElem.2 ⟨m, by omega, ?_⟩, h⟩
    have := log_at hb (plainQ b boat) (m := m) (by omega)
    exact (List.getElem?_eq_some_iff.1 this).2
theorem nearAll_lt {b : Bo} (hb : b.OK) (boat : Nat) : nearAll b boat < B48 := orL_lt (n := 48) fun x hx => logQ_lt hb _ x (List.mem_of_mem_take hx)
theorem nearAll_ne {b : Bo} (hb : b.OK) {boat : Nat} (h : canQ b (plainQ b boat) = true) : nearAll b boat ≠ 0 := by
  rw [ne0_iff]
  obtain ⟨i, hi⟩ := (ne0_iff _).1 ((canAt_ne0 hb (plainQ b boat) (Nat.zero_le _)).2 ((canQ_iff hb _).1 h))
  exact ⟨i, (nearAll_bit hb boat i).2 ⟨0, Nat.zero_le _, hi⟩⟩
abbrev nearO (b : Bo) (boat : Nat) : Out := if canQ b (plainQ b boat) then .ret (.t (tSp (nearS b boat))) else .pan (rfs 10)

set_option maxRecDepth 8000 in
set_option maxHeartbeats 4000000 in
theorem nearest_ok (b : Bo) (hb : b.OK) (boat : Nat) (hbo : boat < b.seen.length) {ks : List (Nat × List Int)} {xs : List T} {clk : Nat} (M : MapOK b ks xs) :
    ACall Tryd.prog 56 [waE b 0, .t (vi boat)] [.map shQ ks xs clk] (waCallR b (nearO b boat)) := by
  refine ACall.walk k56 ?_
  have h52 := told_ok b hb boat hbo M (clk := clk)
  have hne := nearAll_ne hb (boat := boat)
  have hlt := nearAll_lt hb boat
  have hlen := logQ_len hb (plainQ b boat)
  have hL := hb.L
  have h83 := union_ok ((logQ b (plainQ b boat)).take (b.L + 1)) (fun x hx => Nat.lt_of_lt_of_le (logQ_lt hb _ x (List.mem_of_mem_take hx)) (by decide)) (by rw [List.length_take]; omega)
  have h55 := fun x => span_ok b hb x (nearAll b boat) hlt
  have h70 := upTo_ok b.D (by have := hb.D; omega)
  have hfi := fun {ks : List (Nat × List Int)} {xs : List T} {clk : Nat} (M : MapOK b ks xs) => first_ok b 84 (fun n => !canQ b (rowQ b boat (n + 1))) (List.range (b.D + 1)) (by have := hb.D; simp; omega) (boxB boat)
    (fun n hn ks xs clk M => tryRow_ok b hb boat hbo n (by have := hb.D; have := List.mem_range.1 hn; omega) M) M (clk := clk)
  have wl : IntKind.i64.wrap (b.last + 1) = ((b.L + 1 : Nat) : Int) := by rw [wrap_id (by omega) (by omega)]; omega
  have hdD : b.deep = b.D := hb.D.2.2
  unfold toldO at h52
  unfold nearO nearS nearHi
  rw [show orL ((logQ b (plainQ b boat)).take (b.L + 1)) = nearAll b boat from rfl] at h83
  generalize nearAll b boat = A at *
  generalize (List.range (b.D + 1)).find? (fun n => !canQ b (rowQ b boat (n + 1))) = r at *
  generalize hcq : canQ b (plainQ b boat) = c at *
  generalize logQ b (plainQ b boat) = LQ at *
  unfold c56
  simp only [go_sem, Nat.reduceEqDiff, Nat.reduceAdd]
  refine lend1 (m := 0) h52 rfl rfl rfl ?_
  rintro o a ⟨rfl, ks2, xs2, clk2, M2, rfl⟩
  cases c
  · simp only [go_sem, Nat.reduceEqDiff, Out.ren, AO.ren]
    exact finL_pan [0] ⟨rfl, rfl, rfl, rfl, _, ⟨rfl, ks2, xs2, clk2, M2, rfl⟩, rfl⟩
  have hdr : List.drop 13 (List.map E.t (List.map (fun p : Nat => vu p) LQ)) = [] := List.drop_eq_nil_of_le (by simp [hlen])
  simp only [go_sem, Nat.reduceEqDiff, Nat.reduceAdd, undef, undef, Out.ren, E.ren, AO.ren, List.length_map, hlen]
  refine awpL_gcpE [0, 3] [2, 3, 4, 5] { env := [(2, .vp [waE b 0] 0), (3, .t (boxB boat)), (4, .ptr 1 0), (5, .t (.ptr (tLog LQ) 0))], σ := [.map shQ ks2 xs2 clk2, .cells [.t (vi 0), .t (vi 0)]], df := [], k := 0 } (St.gc_mk (by
    simp only [List.map_cons, List.map_nil, lk, Nat.reduceEqDiff, reduceIte]
    rw [gc_ptr (id := 4) (n := 10) (ts := LQ.map fun p : Nat => vu p) rfl rfl]
    rfl) rfl rfl rfl) rfl rfl ?_
  have hb13 : (((b.L + 1 : Nat) : Int) ≤ 13) := by omega
  rw [List.map_take] at h83
  have hl13 : 13 ≤ LQ.length := by omega
  simp only [go_sem, Nat.reduceEqDiff, Nat.reduceAdd, Nat.reduceLeDiff, Int.reduceLE, bnd, wl, Nat.sub_zero, List.length_map]
  refine ⟨⟨hb13, hl13⟩, ?_⟩
  refine ACallL.fresh1 h83 rfl ?_
  simp only [go_sem, Nat.reduceEqDiff, Nat.reduceAdd, Nat.reduceLeDiff, hdD]
  refine ACallL.fresh1 h70 rfl ?_
  simp only [go_sem, Nat.reduceEqDiff]
  have hfi2 := hfi M2 (clk := clk2)
  rw [List.range_succ] at hfi2
  refine lend1 (m := 0) hfi2 rfl rfl rfl ?_
  rintro o a ⟨rfl, ks3, xs3, clk3, M3, rfl⟩
  cases r
  all_goals
    simp only [firstO, go_sem, Nat.reduceEqDiff, Out.ren, E.ren, E.rens, AO.ren]
    refine ACallL.quiet1 (h55 (.map shQ ks3 xs3 clk3) (hne rfl)) rfl rfl rfl ?_
    simp only [go_sem, Nat.reduceEqDiff, Nat.reduceAdd, Nat.reduceLeDiff, undef, undef, tSp, spanS]
    exact finL_ret [0] ⟨rfl, rfl, rfl, rfl, _, rfl, _, ⟨rfl, ks3, xs3, clk3, M3, rfl⟩, rfl⟩
end Go.Proofs.YtafcdpmcmmfbhaaDoor
