/- Proved here: laws that the statements need (RtC1, RtA, RtB, RtD, RtE, RtF, RtG, RtH, RtI, RtJ). No conditions but those that each law states. -/
import Derived.Test.YtcpkkjbkbdmopaaFL
import Derived.Test.YtcpkkjbkbdmopaaProg
import Derived.Test.YtcpkkjbkbdmopaaFJ

set_option linter.unusedSimpArgs false
set_option linter.unusedVariables false

/- Compiled code of functions, printed by program; each is checked to be the program's. No conditions. -/
namespace Go.Proofs.Ytcpkkjbkbdmopaa
open Go Go.Ab
/-- dipworks/towel.Own -/
def c99 : AC :=
 .seq (.reg [⟨(some 2), none, .box (.tmp 0)⟩,
 ⟨(some 4), none, .alloc [(.int .i64 0), (.int .i64 0)]⟩,
 ⟨(some 5), none, .alloc [(.int .i64 0)]⟩])
 (.seq (.reg [⟨none, none, .defer 51 [(.tmp 5)]⟩])
 (.seq (.draw (.step ⟨(some 6), none, .load true 3 (.tmp 2)⟩ (
 .step ⟨(some 7), none, .mov (.tmp 1)⟩ (
 .step ⟨(some 8), none, .faddr 0 (.tmp 2)⟩ (
 .step ⟨(some 9), none, .load false 1 (.tmp 8)⟩ (
 .step ⟨(some 10), none, .len (.tmp 9)⟩ (
 .step ⟨(some 11), none, .bin .sub (.tmp 10) (.lit (.int .i64 1))⟩ (
 .step ⟨(some 14), none, .mov (.tmp 1)⟩ (
 .ev ⟨(some 12), none, .call (.fn 59) [(.tmp 7), (.lit (.int .i64 0)), (.tmp 11)]⟩ [⟨(some 10), none, .len (.tmp 9)⟩, ⟨(some 9), none, .load false 1 (.tmp 8)⟩, ⟨(some 8), none, .faddr 0 (.tmp 2)⟩, ⟨(some 6), none, .load true 3 (.tmp 2)⟩] (
 .ev ⟨(some 13), none, .call (.fn 52) [(.tmp 6), (.tmp 12)]⟩ [⟨(some 10), none, .len (.tmp 9)⟩, ⟨(some 9), none, .load false 1 (.tmp 8)⟩, ⟨(some 8), none, .faddr 0 (.tmp 2)⟩] (
 .ev ⟨(some 15), none, .call (.fn 112) [(.tmp 13), (.tmp 14)]⟩ [⟨(some 10), none, .len (.tmp 9)⟩, ⟨(some 9), none, .load false 1 (.tmp 8)⟩, ⟨(some 8), none, .faddr 0 (.tmp 2)⟩, ⟨(some 6), none, .load true 3 (.tmp 2)⟩] (
 .ev ⟨none, none, .store 2 (.tmp 4) (.tmp 15)⟩ [] (
 .ev ⟨none, none, .store 1 (.tmp 5) (.lit (.int .i64 0))⟩ [] (
 .done)
 (.stop))
 (.stop))
 (.stop))
 (.stop))
 (.stop))))))))))
 (.ret)))
theorem k99 : FnC Try.prog 99 16 [4, 5] [] [.cell 4 true 2, .cell 5 false 1] c99 2 := ⟨Try.f99, _, Try.func99, rfl, by decide, rfl, by decide, by kernel_rfl, by kernel_rfl⟩
/-- dipworks/towel.Kept -/
def c16 : AC :=
 .seq (.reg [⟨(some 2), none, .box (.tmp 0)⟩,
 ⟨(some 4), none, .alloc [(.int .i64 0), (.int .i64 0)]⟩,
 ⟨(some 5), none, .alloc [(.int .i64 0)]⟩])
 (.seq (.reg [⟨none, none, .defer 51 [(.tmp 5)]⟩])
 (.seq (.draw (.step ⟨(some 7), none, .load true 3 (.tmp 2)⟩ (
 .step ⟨(some 8), none, .mov (.tmp 1)⟩ (
 .step ⟨(some 9), none, .faddr 0 (.tmp 2)⟩ (
 .step ⟨(some 10), none, .load false 1 (.tmp 9)⟩ (
 .step ⟨(some 11), none, .len (.tmp 10)⟩ (
 .step ⟨(some 12), none, .bin .sub (.tmp 11) (.lit (.int .i64 1))⟩ (
 .step ⟨(some 16), none, .mov (.tmp 1)⟩ (
 .ev ⟨(some 13), none, .call (.fn 59) [(.tmp 8), (.lit (.int .i64 0)), (.tmp 12)]⟩ [⟨(some 11), none, .len (.tmp 10)⟩, ⟨(some 10), none, .load false 1 (.tmp 9)⟩, ⟨(some 9), none, .faddr 0 (.tmp 2)⟩, ⟨(some 7), none, .load true 3 (.tmp 2)⟩] (
 .ev ⟨(some 14), none, .call (.fn 52) [(.tmp 7), (.tmp 13)]⟩ [⟨(some 11), none, .len (.tmp 10)⟩, ⟨(some 10), none, .load false 1 (.tmp 9)⟩, ⟨(some 9), none, .faddr 0 (.tmp 2)⟩] (
 .ev ⟨(some 15), none, .call (.fn 60) [(.tmp 14)]⟩ [⟨(some 11), none, .len (.tmp 10)⟩, ⟨(some 10), none, .load false 1 (.tmp 9)⟩, ⟨(some 9), none, .faddr 0 (.tmp 2)⟩, ⟨(some 7), none, .load true 3 (.tmp 2)⟩] (
 .ev ⟨(some 17), none, .call (.fn 61) [(.tmp 15), (.tmp 16)]⟩ [⟨(some 11), none, .len (.tmp 10)⟩, ⟨(some 10), none, .load false 1 (.tmp 9)⟩, ⟨(some 9), none, .faddr 0 (.tmp 2)⟩, ⟨(some 7), none, .load true 3 (.tmp 2)⟩] (
 .step ⟨(some 6), none, .mov (.tmp 17)⟩ (
 .done))
 (.stop))
 (.stop))
 (.stop))
 (.stop))))))))))
 (.seq (.reg [⟨(some 18), none, .mov (.tmp 6)⟩,
 ⟨(some 19), none, .call (.fn 62) [(.tmp 18)]⟩,
 ⟨none, none, .store 2 (.tmp 4) (.tmp 19)⟩,
 ⟨none, none, .store 1 (.tmp 5) (.lit (.int .i64 0))⟩])
 (.ret))))
theorem k16 : FnC Try.prog 16 20 [4, 5] [] [.cell 4 true 2, .cell 5 false 1] c16 2 := ⟨Try.f16, _, Try.func16, rfl, by decide, rfl, by decide, by kernel_rfl, by kernel_rfl⟩
/-- dipworks/towel.Who -/
def c42 : AC :=
 .seq (.reg [⟨(some 1), none, .box (.tmp 0)⟩,
 ⟨(some 2), none, .mov (.lit (.int .i64 0))⟩,
 ⟨(some 3), none, .mov (.lit (.int .i64 0))⟩,
 ⟨(some 4), none, .alloc [(.int .i64 0)]⟩])
 (.seq (.reg [⟨none, none, .defer 51 [(.tmp 4)]⟩])
 (.seq (.reg [⟨(some 10), none, .load true 3 (.tmp 1)⟩,
 ⟨(some 11), none, .call (.fn 52) [(.tmp 10), (.lit (.bool true))]⟩,
 ⟨(some 12), none, .call (.fn 60) [(.tmp 11)]⟩,
 ⟨(some 5), none, .mov (.tmp 12)⟩])
 (.seq (.reg [⟨(some 6), none, .mov (.lit (.int .i64 0))⟩,
 ⟨(some 7), none, .mov (.lit (.int .i64 0))⟩])
 (.seq (.seq (.reg [⟨(some 13), none, .faddr 0 (.tmp 1)⟩,
 ⟨(some 14), none, .load false 1 (.tmp 13)⟩,
 ⟨(some 15), none, .len (.tmp 14)⟩,
 ⟨(some 16), none, .mov (.lit (.int .i64 0))⟩])
 (.block 0 (.loop (.seq (.reg [⟨(some 17), none, .bin .lss (.tmp 16) (.tmp 15)⟩])
 (.seq (.cond (.tmp 17) (.skip)
 (.exit 0))
 (.seq (.block 1 (.seq (.reg [⟨(some 18), none, .mov (.tmp 16)⟩,
 ⟨(some 8), none, .mov (.tmp 18)⟩])
 (.seq (.reg [⟨(some 19), none, .mov (.tmp 5)⟩,
 ⟨(some 20), none, .mov (.tmp 8)⟩,
 ⟨(some 21), none, .call (.fn 61) [(.tmp 19), (.tmp 20)]⟩,
 ⟨(some 22), none, .call (.fn 62) [(.tmp 21)]⟩,
 ⟨(some 9), none, .alloc [(.int .i64 0), (.int .i64 0)]⟩,
 ⟨none, none, .store 2 (.tmp 9) (.tmp 22)⟩])
 (.seq (.seq (.reg [⟨(some 23), none, .faddr 0 (.tmp 9)⟩,
 ⟨(some 24), none, .load false 1 (.tmp 23)⟩,
 ⟨(some 25), none, .bin .gtr (.tmp 24) (.lit (.int .i64 0))⟩])
 (.cond (.tmp 25) (.reg [⟨(some 26), none, .mov (.tmp 6)⟩,
 ⟨(some 27), none, .mov (.tmp 8)⟩,
 ⟨(some 28), none, .bin .shl (.lit (.int .i64 1)) (.tmp 27)⟩,
 ⟨(some 29), none, .bin .or (.tmp 26) (.tmp 28)⟩,
 ⟨(some 6), none, .mov (.tmp 29)⟩])
 (.skip)))
 (.seq (.reg [⟨(some 30), none, .faddr 1 (.tmp 9)⟩,
 ⟨(some 31), none, .load false 1 (.tmp 30)⟩,
 ⟨(some 32), none, .bin .gtr (.tmp 31) (.lit (.int .i64 0))⟩])
 (.cond (.tmp 32) (.reg [⟨(some 33), none, .mov (.tmp 7)⟩,
 ⟨(some 34), none, .mov (.tmp 8)⟩,
 ⟨(some 35), none, .bin .shl (.lit (.int .i64 1)) (.tmp 34)⟩,
 ⟨(some 36), none, .bin .or (.tmp 33) (.tmp 35)⟩,
 ⟨(some 7), none, .mov (.tmp 36)⟩])
 (.skip)))))))
 (.reg [⟨(some 37), none, .bin .add (.tmp 16) (.lit (.int .i64 1))⟩,
 ⟨(some 16), none, .mov (.tmp 37)⟩])))))))
 (.seq (.reg [⟨(some 38), none, .mov (.tmp 6)⟩,
 ⟨(some 39), none, .mov (.tmp 7)⟩,
 ⟨(some 2), none, .mov (.tmp 38)⟩,
 ⟨(some 3), none, .mov (.tmp 39)⟩,
 ⟨none, none, .store 1 (.tmp 4) (.lit (.int .i64 0))⟩])
 (.ret))))))
theorem k42 : FnC Try.prog 42 40 [2, 3, 4] [] [.tmp 2, .tmp 3, .cell 4 false 1] c42 1 := ⟨Try.f42, _, Try.func42, rfl, by decide, rfl, by decide, by kernel_rfl, by kernel_rfl⟩
/-- dipworks/towel.All -/
def c15 : AC :=
 .seq (.reg [⟨(some 1), none, .box (.tmp 0)⟩,
 ⟨(some 2), none, .alloc [(.int .i64 0), (.int .i64 0)]⟩,
 ⟨(some 3), none, .alloc [(.int .i64 0)]⟩])
 (.seq (.reg [⟨none, none, .defer 51 [(.tmp 3)]⟩])
 (.seq (.reg [⟨(some 7), none, .load true 3 (.tmp 1)⟩,
 ⟨(some 8), none, .call (.fn 52) [(.tmp 7), (.lit (.bool true))]⟩,
 ⟨(some 4), none, .mov (.tmp 8)⟩])
 (.seq (.reg [⟨(some 9), none, .mkmap (none, (some .i64))⟩,
 ⟨(some 5), none, .mov (.tmp 9)⟩])
 (.seq (.seq (.reg [⟨(some 10), none, .mov (.tmp 4)⟩,
 ⟨(some 11), none, .mov (.tmp 4)⟩,
 ⟨(some 12), none, .mov (.tmp 4)⟩,
 ⟨(some 13), none, .call (.fn 55) [(.tmp 12)]⟩,
 ⟨(some 14), none, .ext (.tmp 13) 0⟩,
 ⟨(some 15), none, .ext (.tmp 13) 1⟩,
 ⟨(some 16), none, .call (.fn 54) [(.tmp 11), (.tmp 14), (.tmp 15)]⟩,
 ⟨(some 17), none, .call (.fn 53) [(.tmp 10), (.tmp 16)]⟩,
 ⟨(some 18), none, .rng (.tmp 17)⟩])
 (.block 0 (.loop (.seq (.reg [⟨(some 19), none, .nxt (.tmp 18)⟩,
 ⟨(some 20), none, .ext (.tmp 19) 0⟩])
 (.seq (.cond (.tmp 20) (.skip)
 (.exit 0))
 (.block 1 (.seq (.reg [⟨(some 21), none, .ent (.tmp 18)⟩,
 ⟨(some 22), none, .ext (.tmp 21) 0⟩,
 ⟨(some 6), none, .alloc [(.int .i64 0), (.int .i64 0), (.int .i64 0), (.int .i64 0), (.int .i64 0), (.int .i64 0)]⟩,
 ⟨none, none, .store 6 (.tmp 6) (.tmp 22)⟩])
 (.seq (.gcp)
 (.reg [⟨(some 23), none, .mov (.tmp 5)⟩,
 ⟨(some 24), none, .faddr 0 (.tmp 6)⟩,
 ⟨(some 25), none, .slc (some 3) 1 (.tmp 24) none none⟩,
 ⟨(some 26), none, .call (.fn 56) [(.tmp 25)]⟩,
 ⟨none, none, .mput (none, (some .i64)) (.tmp 23) (.tmp 26) (.lit (.bool true))⟩])))))))))
 (.seq (.reg [⟨(some 27), none, .mov (.tmp 5)⟩,
 ⟨(some 28), none, .mlen (.tmp 27)⟩,
 ⟨(some 29), none, .bin .gtr (.tmp 28) (.lit (.int .i64 0))⟩,
 ⟨(some 30), none, .call (.fn 57) [(.tmp 29), (.lit (.int .i64 10))]⟩])
 (.seq (.reg [⟨(some 31), none, .mov (.tmp 5)⟩,
 ⟨(some 32), none, .call (.fn 58) [(.tmp 31)]⟩,
 ⟨none, none, .store 2 (.tmp 2) (.tmp 32)⟩,
 ⟨none, none, .store 1 (.tmp 3) (.lit (.int .i64 0))⟩])
 (.ret)))))))
theorem k15 : FnC Try.prog 15 33 [2, 3] [7] [.cell 2 true 2, .cell 3 false 1] c15 1 := ⟨Try.f15, _, Try.func15, rfl, by decide, rfl, by decide, by kernel_rfl, by kernel_rfl⟩
/-- dipworks/towel.Count -/
def c21 : AC :=
 .seq (.reg [⟨(some 1), none, .box (.tmp 0)⟩,
 ⟨(some 2), none, .mov (.lit (.int .i64 0))⟩,
 ⟨(some 3), none, .alloc [(.int .i64 0)]⟩])
 (.seq (.reg [⟨none, none, .defer 51 [(.tmp 3)]⟩])
 (.seq (.reg [⟨(some 4), none, .load true 3 (.tmp 1)⟩,
 ⟨(some 5), none, .call (.fn 52) [(.tmp 4), (.lit (.bool true))]⟩,
 ⟨(some 6), none, .call (.fn 68) [(.tmp 5)]⟩,
 ⟨(some 2), none, .mov (.tmp 6)⟩,
 ⟨none, none, .store 1 (.tmp 3) (.lit (.int .i64 0))⟩])
 (.ret)))
theorem k21 : FnC Try.prog 21 7 [2, 3] [] [.tmp 2, .cell 3 false 1] c21 1 := ⟨Try.f21, _, Try.func21, rfl, by decide, rfl, by decide, by kernel_rfl, by kernel_rfl⟩
/-- dipworks/towel.Search -/
def c22 : AC :=
 .seq (.reg [⟨(some 1), none, .box (.tmp 0)⟩,
 ⟨(some 2), none, .mov (.lit (.int .i64 0))⟩,
 ⟨(some 3), none, .mov (.lit (.int .i64 0))⟩,
 ⟨(some 4), none, .alloc [(.int .i64 0)]⟩])
 (.seq (.reg [⟨none, none, .defer 51 [(.tmp 4)]⟩])
 (.seq (.reg [⟨(some 9), none, .load true 3 (.tmp 1)⟩,
 ⟨(some 10), none, .call (.fn 52) [(.tmp 9), (.lit (.bool true))]⟩,
 ⟨(some 11), none, .call (.fn 60) [(.tmp 10)]⟩,
 ⟨(some 5), none, .alloc [(.pointer none)]⟩,
 ⟨none, none, .store 1 (.tmp 5) (.tmp 11)⟩])
 (.seq (.reg [⟨(some 12), none, .load false 1 (.tmp 5)⟩,
 ⟨(some 13), none, .call (.fn 68) [(.tmp 12)]⟩,
 ⟨(some 14), none, .bin .gtr (.tmp 13) (.lit (.int .i64 1))⟩,
 ⟨(some 15), none, .call (.fn 57) [(.tmp 14), (.lit (.int .i64 11))]⟩])
 (.seq (.reg [⟨(some 17), none, .faddr 0 (.tmp 1)⟩,
 ⟨(some 18), none, .load false 1 (.tmp 17)⟩,
 ⟨(some 19), none, .len (.tmp 18)⟩,
 ⟨(some 20), none, .call (.fn 70) [(.tmp 19)]⟩,
 ⟨(some 21), none, .mkfn (.func 71) [] [(.tmp 5)]⟩,
 ⟨(some 22), none, .build [.nilFunc] [(0, 1, (.tmp 21))]⟩,
 ⟨(some 23), none, .call (.fn 69) [(.tmp 20), (.tmp 22)]⟩,
 ⟨(some 16), none, .mov (.tmp 23)⟩,
 ⟨(some 24), none, .ext (.tmp 16) 0⟩,
 ⟨(some 25), none, .ext (.tmp 16) 1⟩,
 ⟨(some 26), none, .ext (.tmp 16) 2⟩,
 ⟨(some 6), none, .mov (.tmp 24)⟩,
 ⟨(some 7), none, .mov (.tmp 25)⟩,
 ⟨(some 8), none, .mov (.tmp 26)⟩])
 (.seq (.reg [⟨(some 27), none, .mov (.tmp 6)⟩,
 ⟨(some 28), none, .mov (.tmp 7)⟩,
 ⟨(some 2), none, .mov (.tmp 27)⟩,
 ⟨(some 3), none, .mov (.tmp 28)⟩,
 ⟨none, none, .store 1 (.tmp 4) (.lit (.int .i64 0))⟩])
 (.ret))))))
theorem k22 : FnC Try.prog 22 29 [2, 3, 4] [] [.tmp 2, .tmp 3, .cell 4 false 1] c22 1 := ⟨Try.f22, _, Try.func22, rfl, by decide, rfl, by decide, by kernel_rfl, by kernel_rfl⟩
/-- dipworks/towel.answer -/
def c51 : AC :=
 .seq (.reg [⟨(some 6), none, .mov (.tmp 2)⟩,
 ⟨(some 7), none, .nilcmp true (.tmp 6)⟩])
 (.cond (.tmp 7) (.seq (.reg [⟨(some 9), none, .mov (.tmp 2)⟩,
 ⟨(some 10), none, .tass 133 true (.tmp 9)⟩,
 ⟨(some 8), none, .mov (.tmp 10)⟩,
 ⟨(some 11), none, .ext (.tmp 8) 0⟩,
 ⟨(some 12), none, .ext (.tmp 8) 1⟩,
 ⟨(some 3), none, .mov (.tmp 11)⟩,
 ⟨(some 4), none, .mov (.tmp 12)⟩])
 (.seq (.seq (.reg [⟨(some 13), none, .mov (.tmp 4)⟩,
 ⟨(some 14), none, .un .not (.tmp 13)⟩])
 (.cond (.tmp 14) (.reg [⟨(some 15), none, .mov (.tmp 2)⟩,
 ⟨none, none, .pan (.tmp 15)⟩])
 (.skip)))
 (.reg [⟨(some 16), none, .mov (.tmp 0)⟩,
 ⟨(some 17), none, .mov (.tmp 3)⟩,
 ⟨(some 18), none, .nilck (.tmp 16)⟩,
 ⟨none, none, .store 1 (.tmp 18) (.tmp 17)⟩])))
 (.skip))
theorem a51 : FnA Try.prog 51 19 5 2 c51 1 := ⟨Try.f51, _, _, _, _, _, Try.func51, rfl, by decide, rfl, by decide, rfl, rfl, rfl, rfl, rfl, rfl, rfl, by decide, by decide, by kernel_rfl⟩
/-- dipworks/towel.open -/
def c52 : AC :=
 .seq (.reg [⟨(some 2), none, .box (.tmp 0)⟩,
 ⟨(some 4), none, .mov (.lit (.pointer none))⟩])
 (.seq (.reg [⟨(some 12), none, .faddr 0 (.tmp 2)⟩,
 ⟨(some 13), none, .load false 1 (.tmp 12)⟩,
 ⟨(some 14), none, .len (.tmp 13)⟩,
 ⟨(some 15), none, .bin .leq (.tmp 14) (.lit (.int .i64 6))⟩,
 ⟨(some 16), none, .mov (.tmp 15)⟩,
 ⟨(some 17), (some (16, true)), .faddr 1 (.tmp 2)⟩,
 ⟨(some 18), (some (16, true)), .load false 1 (.tmp 17)⟩,
 ⟨(some 19), (some (16, true)), .len (.tmp 18)⟩,
 ⟨(some 20), (some (16, true)), .bin .leq (.tmp 19) (.lit (.int .i64 3))⟩,
 ⟨(some 21), none, .pick (.tmp 16) (.tmp 20) (.lit (.bool false))⟩,
 ⟨(some 22), none, .mov (.tmp 21)⟩,
 ⟨(some 23), (some (22, true)), .faddr 2 (.tmp 2)⟩,
 ⟨(some 24), (some (22, true)), .load false 1 (.tmp 23)⟩,
 ⟨(some 25), (some (22, true)), .len (.tmp 24)⟩,
 ⟨(some 26), (some (22, true)), .bin .leq (.tmp 25) (.lit (.int .i64 3))⟩,
 ⟨(some 27), none, .pick (.tmp 22) (.tmp 26) (.lit (.bool false))⟩,
 ⟨(some 28), none, .call (.fn 57) [(.tmp 27), (.lit (.int .i64 1))]⟩])
 (.seq (.seq (.reg [⟨(some 29), none, .faddr 1 (.tmp 2)⟩,
 ⟨(some 30), none, .load false 1 (.tmp 29)⟩,
 ⟨(some 31), none, .faddr 2 (.tmp 2)⟩,
 ⟨(some 32), none, .load false 1 (.tmp 31)⟩,
 ⟨(some 33), none, .bslice 1 (.slice none 0 0) 2 [(0, (.tmp 30)), (1, (.tmp 32))]⟩,
 ⟨(some 34), none, .len (.tmp 33)⟩,
 ⟨(some 35), none, .mov (.lit (.int .i64 0))⟩])
 (.block 0 (.loop (.seq (.reg [⟨(some 36), none, .bin .lss (.tmp 35) (.tmp 34)⟩])
 (.seq (.cond (.tmp 36) (.skip)
 (.exit 0))
 (.seq (.block 1 (.seq (.reg [⟨(some 37), none, .iaddr 1 (.tmp 33) (.tmp 35)⟩,
 ⟨(some 38), none, .load false 1 (.tmp 37)⟩,
 ⟨(some 6), none, .mov (.tmp 38)⟩])
 (.seq (.reg [⟨(some 39), none, .mov (.tmp 6)⟩,
 ⟨(some 40), none, .len (.tmp 39)⟩,
 ⟨(some 41), none, .mov (.lit (.int .i64 0))⟩])
 (.block 2 (.loop (.seq (.reg [⟨(some 42), none, .bin .lss (.tmp 41) (.tmp 40)⟩])
 (.seq (.cond (.tmp 42) (.skip)
 (.exit 2))
 (.seq (.block 3 (.seq (.reg [⟨(some 43), none, .iaddr 2 (.tmp 39) (.tmp 41)⟩,
 ⟨(some 44), none, .load true 2 (.tmp 43)⟩,
 ⟨(some 8), none, .alloc [(.int .i64 0), (.int .i64 0)]⟩,
 ⟨none, none, .store 2 (.tmp 8) (.tmp 44)⟩])
 (.reg [⟨(some 45), none, .load true 2 (.tmp 8)⟩,
 ⟨(some 46), none, .call (.fn 102) [(.tmp 45), (.lit (.int .i64 24))]⟩,
 ⟨(some 47), none, .call (.fn 57) [(.tmp 46), (.lit (.int .i64 1))]⟩])))
 (.reg [⟨(some 48), none, .bin .add (.tmp 41) (.lit (.int .i64 1))⟩,
 ⟨(some 41), none, .mov (.tmp 48)⟩])))))))))
 (.reg [⟨(some 49), none, .bin .add (.tmp 35) (.lit (.int .i64 1))⟩,
 ⟨(some 35), none, .mov (.tmp 49)⟩])))))))
 (.seq (.reg [⟨(some 50), none, .mkmap (some [(some .i64), (some .i64)], none)⟩,
 ⟨(some 9), none, .mov (.tmp 50)⟩])
 (.seq (.seq (.reg [⟨(some 51), none, .faddr 0 (.tmp 2)⟩,
 ⟨(some 52), none, .load false 1 (.tmp 51)⟩,
 ⟨(some 53), none, .len (.tmp 52)⟩,
 ⟨(some 54), none, .mov (.lit (.int .i64 0))⟩])
 (.block 4 (.loop (.seq (.reg [⟨(some 55), none, .bin .lss (.tmp 54) (.tmp 53)⟩])
 (.seq (.cond (.tmp 55) (.skip)
 (.exit 4))
 (.seq (.block 5 (.seq (.reg [⟨(some 56), none, .iaddr 6 (.tmp 52) (.tmp 54)⟩,
 ⟨(some 57), none, .load true 6 (.tmp 56)⟩,
 ⟨(some 11), none, .alloc [(.int .i64 0), (.int .i64 0), (.int .i64 0), (.int .i64 0), (.int .i64 0), (.int .i64 0)]⟩,
 ⟨none, none, .store 6 (.tmp 11) (.tmp 57)⟩])
 (.seq (.reg [⟨(some 58), none, .faddr 0 (.tmp 11)⟩,
 ⟨(some 59), none, .load false 1 (.tmp 58)⟩,
 ⟨(some 60), none, .faddr 1 (.tmp 2)⟩,
 ⟨(some 61), none, .load false 1 (.tmp 60)⟩,
 ⟨(some 62), none, .len (.tmp 61)⟩,
 ⟨(some 63), none, .bin .sub (.tmp 62) (.lit (.int .i64 1))⟩,
 ⟨(some 64), none, .call (.fn 59) [(.tmp 59), (.lit (.int .i64 0)), (.tmp 63)]⟩,
 ⟨(some 65), none, .mov (.tmp 64)⟩,
 ⟨(some 66), (some (65, true)), .faddr 1 (.tmp 11)⟩,
 ⟨(some 67), (some (65, true)), .load false 1 (.tmp 66)⟩,
 ⟨(some 68), (some (65, true)), .faddr 2 (.tmp 2)⟩,
 ⟨(some 69), (some (65, true)), .load false 1 (.tmp 68)⟩,
 ⟨(some 70), (some (65, true)), .len (.tmp 69)⟩,
 ⟨(some 71), (some (65, true)), .bin .sub (.tmp 70) (.lit (.int .i64 1))⟩,
 ⟨(some 72), (some (65, true)), .call (.fn 59) [(.tmp 67), (.lit (.int .i64 0)), (.tmp 71)]⟩,
 ⟨(some 73), none, .pick (.tmp 65) (.tmp 72) (.lit (.bool false))⟩,
 ⟨(some 74), none, .mov (.tmp 73)⟩,
 ⟨(some 75), (some (74, true)), .faddr 2 (.tmp 11)⟩,
 ⟨(some 76), (some (74, true)), .load true 2 (.tmp 75)⟩,
 ⟨(some 77), (some (74, true)), .call (.fn 102) [(.tmp 76), (.lit (.int .i64 4))]⟩,
 ⟨(some 78), none, .pick (.tmp 74) (.tmp 77) (.lit (.bool false))⟩,
 ⟨(some 79), none, .mov (.tmp 78)⟩,
 ⟨(some 80), (some (79, true)), .faddr 4 (.tmp 11)⟩,
 ⟨(some 81), (some (79, true)), .load true 2 (.tmp 80)⟩,
 ⟨(some 82), (some (79, true)), .call (.fn 102) [(.tmp 81), (.lit (.int .i64 4))]⟩,
 ⟨(some 83), none, .pick (.tmp 79) (.tmp 82) (.lit (.bool false))⟩,
 ⟨(some 84), none, .mov (.tmp 83)⟩,
 ⟨(some 85), (some (84, true)), .faddr 4 (.tmp 11)⟩,
 ⟨(some 86), (some (84, true)), .faddr 0 (.tmp 85)⟩,
 ⟨(some 87), (some (84, true)), .load false 1 (.tmp 86)⟩,
 ⟨(some 88), (some (84, true)), .faddr 2 (.tmp 11)⟩,
 ⟨(some 89), (some (84, true)), .faddr 1 (.tmp 88)⟩,
 ⟨(some 90), (some (84, true)), .load false 1 (.tmp 89)⟩,
 ⟨(some 91), (some (84, true)), .bin .leq (.tmp 87) (.tmp 90)⟩,
 ⟨(some 92), none, .pick (.tmp 84) (.tmp 91) (.lit (.bool false))⟩,
 ⟨(some 93), none, .mov (.tmp 92)⟩,
 ⟨(some 94), (some (93, true)), .mov (.tmp 9)⟩,
 ⟨(some 95), (some (93, true)), .faddr 0 (.tmp 11)⟩,
 ⟨(some 96), (some (93, true)), .load false 1 (.tmp 95)⟩,
 ⟨(some 97), (some (93, true)), .faddr 1 (.tmp 11)⟩,
 ⟨(some 98), (some (93, true)), .load false 1 (.tmp 97)⟩,
 ⟨(some 99), (some (93, true)), .build [(.int .i64 0), (.int .i64 0)] [(0, 1, (.tmp 96)), (1, 1, (.tmp 98))]⟩,
 ⟨(some 100), (some (93, true)), .look (some [(some .i64), (some .i64)], none) (.bool false) false (.tmp 94) (.tmp 99)⟩,
 ⟨(some 101), (some (93, true)), .un .not (.tmp 100)⟩,
 ⟨(some 102), none, .pick (.tmp 93) (.tmp 101) (.lit (.bool false))⟩,
 ⟨(some 103), none, .call (.fn 57) [(.tmp 102), (.lit (.int .i64 1))]⟩])
 (.reg [⟨(some 104), none, .mov (.tmp 9)⟩,
 ⟨(some 105), none, .faddr 0 (.tmp 11)⟩,
 ⟨(some 106), none, .load false 1 (.tmp 105)⟩,
 ⟨(some 107), none, .faddr 1 (.tmp 11)⟩,
 ⟨(some 108), none, .load false 1 (.tmp 107)⟩,
 ⟨(some 109), none, .build [(.int .i64 0), (.int .i64 0)] [(0, 1, (.tmp 106)), (1, 1, (.tmp 108))]⟩,
 ⟨none, none, .mput (some [(some .i64), (some .i64)], none) (.tmp 104) (.tmp 109) (.lit (.bool true))⟩]))))
 (.reg [⟨(some 110), none, .bin .add (.tmp 54) (.lit (.int .i64 1))⟩,
 ⟨(some 54), none, .mov (.tmp 110)⟩])))))))
 (.seq (.reg [⟨(some 111), none, .mov (.tmp 1)⟩,
 ⟨(some 112), none, .call (.fn 57) [(.tmp 111), (.lit (.int .i64 2))]⟩])
 (.seq (.reg [⟨(some 113), none, .load true 3 (.tmp 2)⟩,
 ⟨(some 114), none, .build [(.slice none 0 0), (.slice none 0 0), (.slice none 0 0), (.int .i64 0), (.int .i64 0), (.int .i64 0)] [(0, 3, (.tmp 113)), (3, 1, (.lit (.int .i64 (-1)))), (4, 1, (.lit (.int .i64 0))), (5, 1, (.lit (.int .i64 0)))]⟩,
 ⟨(some 115), none, .box (.tmp 114)⟩,
 ⟨(some 4), none, .mov (.tmp 115)⟩])
 (.ret)))))))
theorem k52 : FnC Try.prog 52 116 [] [] [.tmp 4] c52 2 := ⟨Try.f52, _, Try.func52, rfl, by decide, rfl, by decide, by kernel_rfl, by kernel_rfl⟩
/-- dipworks/towel.within -/
def c59 : AC :=
 .seq (.reg [⟨(some 6), none, .mov (.lit (.bool false))⟩])
 (.seq (.reg [⟨(some 7), none, .mov (.tmp 1)⟩,
 ⟨(some 8), none, .mov (.tmp 0)⟩,
 ⟨(some 9), none, .bin .leq (.tmp 7) (.tmp 8)⟩,
 ⟨(some 10), none, .mov (.tmp 9)⟩,
 ⟨(some 11), (some (10, true)), .mov (.tmp 0)⟩,
 ⟨(some 12), (some (10, true)), .mov (.tmp 2)⟩,
 ⟨(some 13), (some (10, true)), .bin .leq (.tmp 11) (.tmp 12)⟩,
 ⟨(some 14), none, .pick (.tmp 10) (.tmp 13) (.lit (.bool false))⟩,
 ⟨(some 6), none, .mov (.tmp 14)⟩])
 (.ret))
theorem k59 : FnC Try.prog 59 15 [] [] [.tmp 6] c59 3 := ⟨Try.f59, _, Try.func59, rfl, by decide, rfl, by decide, by kernel_rfl, by kernel_rfl⟩
/-- (*dipworks/towel.beach).own -/
def c112 : AC :=
 .seq (.reg [⟨(some 4), none, .alloc [(.int .i64 0), (.int .i64 0)]⟩])
 (.seq (.reg [⟨(some 6), none, .mov (.tmp 0)⟩,
 ⟨(some 7), none, .nilck (.tmp 6)⟩,
 ⟨(some 8), none, .faddr 0 (.tmp 7)⟩,
 ⟨(some 9), none, .faddr 0 (.tmp 8)⟩,
 ⟨(some 10), none, .load false 1 (.tmp 9)⟩,
 ⟨(some 11), none, .mov (.tmp 1)⟩,
 ⟨(some 12), none, .iaddr 6 (.tmp 10) (.tmp 11)⟩,
 ⟨(some 13), none, .load true 6 (.tmp 12)⟩,
 ⟨(some 5), none, .alloc [(.int .i64 0), (.int .i64 0), (.int .i64 0), (.int .i64 0), (.int .i64 0), (.int .i64 0)]⟩,
 ⟨none, none, .store 6 (.tmp 5) (.tmp 13)⟩])
 (.seq (.reg [⟨(some 14), none, .faddr 2 (.tmp 5)⟩,
 ⟨(some 15), none, .faddr 0 (.tmp 14)⟩,
 ⟨(some 16), none, .load false 1 (.tmp 15)⟩,
 ⟨(some 17), none, .faddr 4 (.tmp 5)⟩,
 ⟨(some 18), none, .faddr 1 (.tmp 17)⟩,
 ⟨(some 19), none, .load false 1 (.tmp 18)⟩,
 ⟨(some 20), none, .bin .sub (.tmp 16) (.tmp 19)⟩,
 ⟨(some 21), none, .mxmn true (.lit (.int .i64 0)) [(.tmp 20)]⟩,
 ⟨(some 22), none, .faddr 2 (.tmp 5)⟩,
 ⟨(some 23), none, .faddr 1 (.tmp 22)⟩,
 ⟨(some 24), none, .load false 1 (.tmp 23)⟩,
 ⟨(some 25), none, .faddr 4 (.tmp 5)⟩,
 ⟨(some 26), none, .faddr 0 (.tmp 25)⟩,
 ⟨(some 27), none, .load false 1 (.tmp 26)⟩,
 ⟨(some 28), none, .bin .sub (.tmp 24) (.tmp 27)⟩,
 ⟨(some 29), none, .build [(.int .i64 0), (.int .i64 0)] [(0, 1, (.tmp 21)), (1, 1, (.tmp 28))]⟩,
 ⟨none, none, .store 2 (.tmp 4) (.tmp 29)⟩])
 (.ret)))
theorem k112 : FnC Try.prog 112 30 [4] [] [.cell 4 true 2] c112 2 := ⟨Try.f112, _, Try.func112, rfl, by decide, rfl, by decide, by kernel_rfl, by kernel_rfl⟩
/-- (*dipworks/towel.beach).told -/
def c60 : AC :=
 .seq (.reg [⟨(some 2), none, .mov (.lit (.pointer none))⟩])
 (.seq (.reg [⟨(some 3), none, .mov (.tmp 0)⟩,
 ⟨(some 4), none, .call (.fn 68) [(.tmp 3)]⟩,
 ⟨(some 5), none, .bin .gtr (.tmp 4) (.lit (.int .i64 0))⟩,
 ⟨(some 6), none, .call (.fn 57) [(.tmp 5), (.lit (.int .i64 10))]⟩])
 (.seq (.reg [⟨(some 7), none, .mov (.tmp 0)⟩,
 ⟨(some 2), none, .mov (.tmp 7)⟩])
 (.ret)))
theorem k60 : FnC Try.prog 60 8 [] [] [.tmp 2] c60 1 := ⟨Try.f60, _, Try.func60, rfl, by decide, rfl, by decide, by kernel_rfl, by kernel_rfl⟩
/-- (*dipworks/towel.beach).of -/
def c61 : AC :=
 .seq (.reg [⟨(some 4), none, .mov (.lit (.map none))⟩])
 (.seq (.reg [⟨(some 9), none, .mkmap (none, (some .i64))⟩,
 ⟨(some 5), none, .alloc [(.map none)]⟩,
 ⟨none, none, .store 1 (.tmp 5) (.tmp 9)⟩])
 (.seq (.reg [⟨(some 10), none, .mov (.tmp 0)⟩,
 ⟨(some 11), none, .nilck (.tmp 10)⟩,
 ⟨(some 12), none, .load true 6 (.tmp 11)⟩,
 ⟨(some 6), none, .alloc [(.slice none 0 0), (.slice none 0 0), (.slice none 0 0), (.int .i64 0), (.int .i64 0), (.int .i64 0)]⟩,
 ⟨none, none, .store 6 (.tmp 6) (.tmp 12)⟩])
 (.seq (.reg [⟨(some 13), none, .mov (.tmp 1)⟩,
 ⟨(some 14), none, .faddr 3 (.tmp 6)⟩,
 ⟨none, none, .store 1 (.tmp 14) (.tmp 13)⟩])
 (.seq (.seq (.reg [⟨(some 15), none, .mov (.tmp 0)⟩,
 ⟨(some 16), none, .mov (.tmp 1)⟩,
 ⟨(some 17), none, .call (.fn 104) [(.tmp 15), (.tmp 16)]⟩])
 (.block 0 (.rangeF (.tmp 17) 18 (.reg [⟨(some 7), none, .mov (.tmp 18)⟩])
 (.block 1 (.seq (.reg [⟨(some 19), none, .mov (.tmp 7)⟩,
 ⟨(some 20), none, .faddr 4 (.tmp 6)⟩,
 ⟨none, none, .store 1 (.tmp 20) (.tmp 19)⟩])
 (.seq (.reg [⟨(some 21), none, .call (.fn 68) [(.tmp 6)]⟩,
 ⟨(some 8), none, .mov (.tmp 21)⟩])
 (.seq (.reg [⟨(some 22), none, .mov (.tmp 8)⟩,
 ⟨(some 23), none, .bin .gtr (.tmp 22) (.lit (.int .i64 0))⟩])
 (.cond (.tmp 23) (.reg [⟨(some 24), none, .load false 1 (.tmp 5)⟩,
 ⟨(some 25), none, .mov (.tmp 7)⟩,
 ⟨(some 26), none, .mov (.tmp 8)⟩,
 ⟨none, none, .mput (none, (some .i64)) (.tmp 24) (.tmp 25) (.tmp 26)⟩])
 (.skip)))))))))
 (.seq (.reg [⟨(some 27), none, .load false 1 (.tmp 5)⟩,
 ⟨(some 4), none, .mov (.tmp 27)⟩])
 (.ret))))))
theorem k61 : FnC Try.prog 61 28 [] [] [.tmp 4] c61 2 := ⟨Try.f61, _, Try.func61, rfl, by decide, rfl, by decide, by kernel_rfl, by kernel_rfl⟩
/-- dipworks/towel.hull[int] -/
def c62 : AC :=
 .seq (.reg [⟨(some 2), none, .alloc [(.int .i64 0), (.int .i64 0)]⟩])
 (.seq (.reg [⟨(some 4), none, .build [(.int .i64 0), (.int .i64 0)] [(0, 1, (.lit (.int .i64 1073741824))), (1, 1, (.lit (.int .i64 (-1073741824))))]⟩,
 ⟨none, none, .store 2 (.tmp 2) (.tmp 4)⟩])
 (.seq (.seq (.reg [⟨(some 5), none, .mov (.tmp 0)⟩,
 ⟨(some 6), none, .rng (.tmp 5)⟩])
 (.block 0 (.loop (.seq (.reg [⟨(some 7), none, .nxt (.tmp 6)⟩,
 ⟨(some 8), none, .ext (.tmp 7) 0⟩])
 (.seq (.cond (.tmp 8) (.skip)
 (.exit 0))
 (.block 1 (.seq (.reg [⟨(some 9), none, .ent (.tmp 6)⟩,
 ⟨(some 10), none, .ext (.tmp 9) 0⟩,
 ⟨(some 3), none, .mov (.tmp 10)⟩])
 (.reg [⟨(some 11), none, .faddr 0 (.tmp 2)⟩,
 ⟨(some 12), none, .load false 1 (.tmp 11)⟩,
 ⟨(some 13), none, .mov (.tmp 3)⟩,
 ⟨(some 14), none, .mxmn false (.tmp 12) [(.tmp 13)]⟩,
 ⟨(some 15), none, .faddr 1 (.tmp 2)⟩,
 ⟨(some 16), none, .load false 1 (.tmp 15)⟩,
 ⟨(some 17), none, .mov (.tmp 3)⟩,
 ⟨(some 18), none, .mxmn true (.tmp 16) [(.tmp 17)]⟩,
 ⟨(some 19), none, .build [(.int .i64 0), (.int .i64 0)] [(0, 1, (.tmp 14)), (1, 1, (.tmp 18))]⟩,
 ⟨none, none, .store 2 (.tmp 2) (.tmp 19)⟩]))))))))
 (.seq (.reg [⟨(some 20), none, .load true 2 (.tmp 2)⟩,
 ⟨none, none, .store 2 (.tmp 2) (.tmp 20)⟩])
 (.ret))))
theorem k62 : FnC Try.prog 62 21 [2] [] [.cell 2 true 2] c62 1 := ⟨Try.f62, _, Try.func62, rfl, by decide, rfl, by decide, by kernel_rfl, by kernel_rfl⟩
/-- (*dipworks/towel.beach).ends -/
def c53 : AC :=
 .seq (.reg [⟨(some 4), none, .mov (.lit (.map none))⟩])
 (.seq (.reg [⟨(some 16), none, .mkmap (some [(some .i64), (some .i64), (some .i64), (some .i64), (some .i64), (some .i64)], none)⟩,
 ⟨(some 17), none, .build [(.int .i64 0), (.int .i64 0), (.int .i64 0), (.int .i64 0), (.int .i64 0), (.int .i64 0)] []⟩,
 ⟨none, none, .mput (some [(some .i64), (some .i64), (some .i64), (some .i64), (some .i64), (some .i64)], none) (.tmp 16) (.tmp 17) (.lit (.int .i64 1))⟩,
 ⟨(some 18), none, .mov (.tmp 16)⟩,
 ⟨(some 5), none, .mov (.tmp 18)⟩])
 (.seq (.reg [⟨(some 6), none, .alloc [.nilFunc]⟩,
 ⟨none, none, .store 1 (.tmp 6) (.fn 103)⟩])
 (.seq (.seq (.reg [⟨(some 19), none, .mov (.tmp 0)⟩,
 ⟨(some 20), none, .nilck (.tmp 19)⟩,
 ⟨(some 21), none, .faddr 0 (.tmp 20)⟩,
 ⟨(some 22), none, .faddr 0 (.tmp 21)⟩,
 ⟨(some 23), none, .load false 1 (.tmp 22)⟩,
 ⟨(some 24), none, .len (.tmp 23)⟩,
 ⟨(some 25), none, .mov (.lit (.int .i64 0))⟩])
 (.block 0 (.loop (.seq (.reg [⟨(some 26), none, .bin .lss (.tmp 25) (.tmp 24)⟩])
 (.seq (.cond (.tmp 26) (.skip)
 (.exit 0))
 (.seq (.block 1 (.seq (.reg [⟨(some 27), none, .mov (.tmp 25)⟩,
 ⟨(some 28), none, .iaddr 6 (.tmp 23) (.tmp 25)⟩,
 ⟨(some 29), none, .load true 6 (.tmp 28)⟩,
 ⟨(some 8), none, .alloc [(.int .i64 0), (.int .i64 0), (.int .i64 0), (.int .i64 0), (.int .i64 0), (.int .i64 0)]⟩,
 ⟨(some 7), none, .mov (.tmp 27)⟩,
 ⟨none, none, .store 6 (.tmp 8) (.tmp 29)⟩])
 (.seq (.reg [⟨(some 30), none, .mkmap (some [(some .i64), (some .i64), (some .i64), (some .i64), (some .i64), (some .i64)], none)⟩,
 ⟨(some 9), none, .alloc [(.map none)]⟩,
 ⟨none, none, .store 1 (.tmp 9) (.tmp 30)⟩])
 (.seq (.seq (.reg [⟨(some 31), none, .mov (.tmp 5)⟩,
 ⟨(some 32), none, .rng (.tmp 31)⟩])
 (.block 2 (.loop (.seq (.reg [⟨(some 33), none, .nxt (.tmp 32)⟩,
 ⟨(some 34), none, .ext (.tmp 33) 0⟩])
 (.seq (.cond (.tmp 34) (.skip)
 (.exit 2))
 (.block 3 (.seq (.reg [⟨(some 35), none, .ent (.tmp 32)⟩,
 ⟨(some 36), none, .ext (.tmp 35) 0⟩,
 ⟨(some 37), none, .ext (.tmp 35) 1⟩,
 ⟨(some 10), none, .alloc [(.int .i64 0), (.int .i64 0), (.int .i64 0), (.int .i64 0), (.int .i64 0), (.int .i64 0)]⟩,
 ⟨(some 11), none, .alloc [(.int .i64 0)]⟩,
 ⟨none, none, .store 6 (.tmp 10) (.tmp 36)⟩,
 ⟨none, none, .store 1 (.tmp 11) (.tmp 37)⟩])
 (.seq (.reg [⟨(some 38), none, .mov (.tmp 0)⟩,
 ⟨(some 39), none, .mov (.tmp 7)⟩,
 ⟨(some 40), none, .call (.fn 104) [(.tmp 38), (.tmp 39)]⟩])
 (.block 4 (.rangeF (.tmp 40) 41 (.reg [⟨(some 12), none, .mov (.tmp 41)⟩])
 (.block 5 (.draw (.step ⟨(some 42), none, .load false 1 (.tmp 9)⟩ (
 .step ⟨(some 43), none, .load false 1 (.tmp 6)⟩ (
 .step ⟨(some 44), none, .load true 6 (.tmp 10)⟩ (
 .step ⟨(some 45), none, .load true 6 (.tmp 8)⟩ (
 .step ⟨(some 46), none, .mov (.tmp 12)⟩ (
 .step ⟨(some 49), none, .load false 1 (.tmp 11)⟩ (
 .ev ⟨(some 47), none, .call (.tmp 43) [(.tmp 44), (.tmp 45), (.tmp 46)]⟩ [⟨(some 49), none, .load false 1 (.tmp 11)⟩, ⟨(some 42), none, .load false 1 (.tmp 9)⟩] (
 .step ⟨(some 48), none, .look (some [(some .i64), (some .i64), (some .i64), (some .i64), (some .i64), (some .i64)], none) (.int .i64 0) false (.tmp 42) (.tmp 47)⟩ (
 .step ⟨(some 50), none, .bin .add (.tmp 48) (.tmp 49)⟩ (
 .ev ⟨(some 51), none, .ment (some [(some .i64), (some .i64), (some .i64), (some .i64), (some .i64), (some .i64)], none) (.int .i64 0) (.tmp 42) (.tmp 47)⟩ [⟨(some 48), none, .look (some [(some .i64), (some .i64), (some .i64), (some .i64), (some .i64), (some .i64)], none) (.int .i64 0) false (.tmp 42) (.tmp 47)⟩] (
 .step ⟨(some 52), none, .ext (.tmp 51) 1⟩ (
 .ev ⟨none, none, .est (.tmp 42) (.tmp 52) (.tmp 50)⟩ [] (
 .done)
 (.stop)))
 (.stop))))
 (.stop))))))))))))))))))))
 (.reg [⟨(some 53), none, .load false 1 (.tmp 9)⟩,
 ⟨(some 5), none, .mov (.tmp 53)⟩])))))
 (.reg [⟨(some 54), none, .bin .add (.tmp 25) (.lit (.int .i64 1))⟩,
 ⟨(some 25), none, .mov (.tmp 54)⟩])))))))
 (.seq (.seq (.reg [⟨(some 55), none, .mov (.tmp 5)⟩,
 ⟨(some 56), none, .rng (.tmp 55)⟩])
 (.block 6 (.loop (.seq (.reg [⟨(some 57), none, .nxt (.tmp 56)⟩,
 ⟨(some 58), none, .ext (.tmp 57) 0⟩])
 (.seq (.cond (.tmp 58) (.skip)
 (.exit 6))
 (.block 7 (.seq (.reg [⟨(some 59), none, .ent (.tmp 56)⟩,
 ⟨(some 60), none, .ext (.tmp 59) 0⟩,
 ⟨(some 13), none, .alloc [(.int .i64 0), (.int .i64 0), (.int .i64 0), (.int .i64 0), (.int .i64 0), (.int .i64 0)]⟩,
 ⟨none, none, .store 6 (.tmp 13) (.tmp 60)⟩])
 (.seq (.reg [⟨(some 61), none, .mov (.tmp 1)⟩,
 ⟨(some 62), none, .len (.tmp 61)⟩,
 ⟨(some 63), none, .mov (.lit (.int .i64 0))⟩])
 (.block 8 (.loop (.seq (.reg [⟨(some 64), none, .bin .lss (.tmp 63) (.tmp 62)⟩])
 (.seq (.cond (.tmp 64) (.skip)
 (.exit 8))
 (.seq (.block 9 (.seq (.reg [⟨(some 65), none, .iaddr 1 (.tmp 61) (.tmp 63)⟩,
 ⟨(some 66), none, .load false 1 (.tmp 65)⟩,
 ⟨(some 15), none, .mov (.tmp 66)⟩])
 (.seq (.reg [⟨(some 67), none, .mov (.tmp 15)⟩,
 ⟨(some 68), none, .load true 6 (.tmp 13)⟩,
 ⟨(some 69), none, .inv [(146, 134), (147, 135)] (.tmp 67) [(.tmp 68)]⟩,
 ⟨(some 70), none, .un .not (.tmp 69)⟩])
 (.cond (.tmp 70) (.seq (.reg [⟨(some 71), none, .mov (.tmp 5)⟩,
 ⟨(some 72), none, .load true 6 (.tmp 13)⟩,
 ⟨none, none, .mdel (some [(some .i64), (some .i64), (some .i64), (some .i64), (some .i64), (some .i64)], none) (.tmp 71) (.tmp 72)⟩])
 (.exit 8))
 (.skip)))))
 (.reg [⟨(some 73), none, .bin .add (.tmp 63) (.lit (.int .i64 1))⟩,
 ⟨(some 63), none, .mov (.tmp 73)⟩]))))))))))))))
 (.seq (.reg [⟨(some 74), none, .mov (.tmp 5)⟩,
 ⟨(some 4), none, .mov (.tmp 74)⟩])
 (.ret))))))
theorem k53 : FnC Try.prog 53 75 [] [] [.tmp 4] c53 2 := ⟨Try.f53, _, Try.func53, rfl, by decide, rfl, by decide, by kernel_rfl, by kernel_rfl⟩
/-- (*dipworks/towel.beach).counts -/
def c54 : AC :=
 .seq (.reg [⟨(some 6), none, .mov (.lit (.slice none 0 0))⟩])
 (.seq (.seq (.reg [⟨(some 11), none, .mov (.tmp 0)⟩,
 ⟨(some 12), none, .nilck (.tmp 11)⟩,
 ⟨(some 13), none, .faddr 0 (.tmp 12)⟩,
 ⟨(some 14), none, .faddr 1 (.tmp 13)⟩,
 ⟨(some 15), none, .load false 1 (.tmp 14)⟩,
 ⟨(some 16), none, .len (.tmp 15)⟩,
 ⟨(some 17), none, .mov (.lit (.int .i64 0))⟩])
 (.block 0 (.loop (.seq (.reg [⟨(some 18), none, .bin .lss (.tmp 17) (.tmp 16)⟩])
 (.seq (.cond (.tmp 18) (.skip)
 (.exit 0))
 (.seq (.block 1 (.seq (.reg [⟨(some 19), none, .mov (.tmp 17)⟩,
 ⟨(some 20), none, .iaddr 2 (.tmp 15) (.tmp 17)⟩,
 ⟨(some 21), none, .load true 2 (.tmp 20)⟩,
 ⟨(some 8), none, .alloc [(.int .i64 0), (.int .i64 0)]⟩,
 ⟨(some 7), none, .mov (.tmp 19)⟩,
 ⟨none, none, .store 2 (.tmp 8) (.tmp 21)⟩])
 (.seq (.reg [⟨(some 22), none, .mov (.tmp 1)⟩,
 ⟨(some 23), none, .mov (.tmp 7)⟩,
 ⟨(some 24), none, .bin .shr (.tmp 22) (.tmp 23)⟩,
 ⟨(some 25), none, .bin .and (.tmp 24) (.lit (.int .i64 1))⟩,
 ⟨(some 26), none, .bin .eql (.tmp 25) (.lit (.int .i64 1))⟩])
 (.cond (.tmp 26) (.reg [⟨(some 27), none, .mov (.tmp 6)⟩,
 ⟨(some 28), none, .mov (.tmp 7)⟩,
 ⟨(some 29), none, .load true 2 (.tmp 8)⟩,
 ⟨(some 30), none, .build [(.int .i64 0), (.int .i64 0), (.int .i64 0)] [(0, 1, (.tmp 28)), (1, 2, (.tmp 29))]⟩,
 ⟨(some 31), none, .mkif 146 (.tmp 30)⟩,
 ⟨(some 32), none, .bslice 1 .nilIface 1 [(0, (.tmp 31))]⟩,
 ⟨(some 33), none, .app 1 16 (.tmp 27) (.tmp 32)⟩,
 ⟨(some 6), none, .mov (.tmp 33)⟩])
 (.skip)))))
 (.reg [⟨(some 34), none, .bin .add (.tmp 17) (.lit (.int .i64 1))⟩,
 ⟨(some 17), none, .mov (.tmp 34)⟩])))))))
 (.seq (.seq (.reg [⟨(some 35), none, .mov (.tmp 0)⟩,
 ⟨(some 36), none, .nilck (.tmp 35)⟩,
 ⟨(some 37), none, .faddr 0 (.tmp 36)⟩,
 ⟨(some 38), none, .faddr 2 (.tmp 37)⟩,
 ⟨(some 39), none, .load false 1 (.tmp 38)⟩,
 ⟨(some 40), none, .len (.tmp 39)⟩,
 ⟨(some 41), none, .mov (.lit (.int .i64 0))⟩])
 (.block 2 (.loop (.seq (.reg [⟨(some 42), none, .bin .lss (.tmp 41) (.tmp 40)⟩])
 (.seq (.cond (.tmp 42) (.skip)
 (.exit 2))
 (.seq (.block 3 (.seq (.reg [⟨(some 43), none, .mov (.tmp 41)⟩,
 ⟨(some 44), none, .iaddr 2 (.tmp 39) (.tmp 41)⟩,
 ⟨(some 45), none, .load true 2 (.tmp 44)⟩,
 ⟨(some 10), none, .alloc [(.int .i64 0), (.int .i64 0)]⟩,
 ⟨(some 9), none, .mov (.tmp 43)⟩,
 ⟨none, none, .store 2 (.tmp 10) (.tmp 45)⟩])
 (.seq (.reg [⟨(some 46), none, .mov (.tmp 2)⟩,
 ⟨(some 47), none, .mov (.tmp 9)⟩,
 ⟨(some 48), none, .bin .shr (.tmp 46) (.tmp 47)⟩,
 ⟨(some 49), none, .bin .and (.tmp 48) (.lit (.int .i64 1))⟩,
 ⟨(some 50), none, .bin .eql (.tmp 49) (.lit (.int .i64 1))⟩])
 (.cond (.tmp 50) (.reg [⟨(some 51), none, .mov (.tmp 6)⟩,
 ⟨(some 52), none, .mov (.tmp 9)⟩,
 ⟨(some 53), none, .load true 2 (.tmp 10)⟩,
 ⟨(some 54), none, .build [(.int .i64 0), (.int .i64 0), (.int .i64 0)] [(0, 1, (.tmp 52)), (1, 2, (.tmp 53))]⟩,
 ⟨(some 55), none, .mkif 147 (.tmp 54)⟩,
 ⟨(some 56), none, .bslice 1 .nilIface 1 [(0, (.tmp 55))]⟩,
 ⟨(some 57), none, .app 1 16 (.tmp 51) (.tmp 56)⟩,
 ⟨(some 6), none, .mov (.tmp 57)⟩])
 (.skip)))))
 (.reg [⟨(some 58), none, .bin .add (.tmp 41) (.lit (.int .i64 1))⟩,
 ⟨(some 41), none, .mov (.tmp 58)⟩])))))))
 (.seq (.reg [⟨(some 59), none, .mov (.tmp 6)⟩,
 ⟨(some 6), none, .mov (.tmp 59)⟩])
 (.ret))))
theorem k54 : FnC Try.prog 54 60 [] [] [.tmp 6] c54 3 := ⟨Try.f54, _, Try.func54, rfl, by decide, rfl, by decide, by kernel_rfl, by kernel_rfl⟩
/-- (*dipworks/towel.beach).every -/
def c55 : AC :=
 .seq (.reg [⟨(some 2), none, .mov (.lit (.int .i64 0))⟩,
 ⟨(some 3), none, .mov (.lit (.int .i64 0))⟩])
 (.seq (.draw (.step ⟨(some 4), none, .mov (.tmp 0)⟩ (
 .step ⟨(some 5), none, .nilck (.tmp 4)⟩ (
 .step ⟨(some 6), none, .faddr 0 (.tmp 5)⟩ (
 .step ⟨(some 7), none, .faddr 1 (.tmp 6)⟩ (
 .step ⟨(some 8), none, .load false 1 (.tmp 7)⟩ (
 .step ⟨(some 9), none, .len (.tmp 8)⟩ (
 .step ⟨(some 10), none, .bin .shl (.lit (.int .i64 1)) (.tmp 9)⟩ (
 .step ⟨(some 11), none, .bin .sub (.tmp 10) (.lit (.int .i64 1))⟩ (
 .step ⟨(some 12), none, .mov (.tmp 0)⟩ (
 .step ⟨(some 13), none, .nilck (.tmp 12)⟩ (
 .step ⟨(some 14), none, .faddr 0 (.tmp 13)⟩ (
 .step ⟨(some 15), none, .faddr 2 (.tmp 14)⟩ (
 .step ⟨(some 16), none, .load false 1 (.tmp 15)⟩ (
 .step ⟨(some 17), none, .len (.tmp 16)⟩ (
 .step ⟨(some 18), none, .bin .shl (.lit (.int .i64 1)) (.tmp 17)⟩ (
 .step ⟨(some 19), none, .bin .sub (.tmp 18) (.lit (.int .i64 1))⟩ (
 .step ⟨(some 2), none, .mov (.tmp 11)⟩ (
 .step ⟨(some 3), none, .mov (.tmp 19)⟩ (
 .done))))))))))))))))))))
 (.ret))
theorem k55 : FnC Try.prog 55 20 [] [] [.tmp 2, .tmp 3] c55 1 := ⟨Try.f55, _, Try.func55, rfl, by decide, rfl, by decide, by kernel_rfl, by kernel_rfl⟩
/-- dipworks/towel.total -/
def c56 : AC :=
 .seq (.reg [⟨(some 2), none, .mov (.lit (.int .i64 0))⟩])
 (.seq (.seq (.reg [⟨(some 5), none, .mov (.tmp 0)⟩,
 ⟨(some 6), none, .len (.tmp 5)⟩,
 ⟨(some 7), none, .mov (.lit (.int .i64 0))⟩])
 (.block 0 (.loop (.seq (.reg [⟨(some 8), none, .bin .lss (.tmp 7) (.tmp 6)⟩])
 (.seq (.cond (.tmp 8) (.skip)
 (.exit 0))
 (.seq (.block 1 (.seq (.reg [⟨(some 9), none, .iaddr 1 (.tmp 5) (.tmp 7)⟩,
 ⟨(some 10), none, .load false 1 (.tmp 9)⟩,
 ⟨(some 4), none, .mov (.tmp 10)⟩])
 (.reg [⟨(some 11), none, .mov (.tmp 2)⟩,
 ⟨(some 12), none, .mov (.tmp 4)⟩,
 ⟨(some 13), none, .bin .add (.tmp 11) (.tmp 12)⟩,
 ⟨(some 2), none, .mov (.tmp 13)⟩])))
 (.reg [⟨(some 14), none, .bin .add (.tmp 7) (.lit (.int .i64 1))⟩,
 ⟨(some 7), none, .mov (.tmp 14)⟩])))))))
 (.seq (.reg [⟨(some 15), none, .mov (.tmp 2)⟩,
 ⟨(some 2), none, .mov (.tmp 15)⟩])
 (.ret)))
theorem k56 : FnC Try.prog 56 16 [] [] [.tmp 2] c56 1 := ⟨Try.f56, _, Try.func56, rfl, by decide, rfl, by decide, by kernel_rfl, by kernel_rfl⟩
/-- dipworks/towel.ask -/
def c57 : AC :=
 .seq (.reg [⟨(some 4), none, .mov (.tmp 0)⟩,
 ⟨(some 5), none, .un .not (.tmp 4)⟩])
 (.cond (.tmp 5) (.reg [⟨(some 6), none, .mov (.tmp 1)⟩,
 ⟨(some 7), none, .mkif 133 (.tmp 6)⟩,
 ⟨none, none, .pan (.tmp 7)⟩])
 (.skip))
theorem k57 : FnC Try.prog 57 8 [] [] [] c57 2 := ⟨Try.f57, _, Try.func57, rfl, by decide, rfl, by decide, by kernel_rfl, by kernel_rfl⟩
/-- dipworks/towel.hull[bool] -/
def c58 : AC :=
 .seq (.reg [⟨(some 2), none, .alloc [(.int .i64 0), (.int .i64 0)]⟩])
 (.seq (.reg [⟨(some 4), none, .build [(.int .i64 0), (.int .i64 0)] [(0, 1, (.lit (.int .i64 1073741824))), (1, 1, (.lit (.int .i64 (-1073741824))))]⟩,
 ⟨none, none, .store 2 (.tmp 2) (.tmp 4)⟩])
 (.seq (.seq (.reg [⟨(some 5), none, .mov (.tmp 0)⟩,
 ⟨(some 6), none, .rng (.tmp 5)⟩])
 (.block 0 (.loop (.seq (.reg [⟨(some 7), none, .nxt (.tmp 6)⟩,
 ⟨(some 8), none, .ext (.tmp 7) 0⟩])
 (.seq (.cond (.tmp 8) (.skip)
 (.exit 0))
 (.block 1 (.seq (.reg [⟨(some 9), none, .ent (.tmp 6)⟩,
 ⟨(some 10), none, .ext (.tmp 9) 0⟩,
 ⟨(some 3), none, .mov (.tmp 10)⟩])
 (.reg [⟨(some 11), none, .faddr 0 (.tmp 2)⟩,
 ⟨(some 12), none, .load false 1 (.tmp 11)⟩,
 ⟨(some 13), none, .mov (.tmp 3)⟩,
 ⟨(some 14), none, .mxmn false (.tmp 12) [(.tmp 13)]⟩,
 ⟨(some 15), none, .faddr 1 (.tmp 2)⟩,
 ⟨(some 16), none, .load false 1 (.tmp 15)⟩,
 ⟨(some 17), none, .mov (.tmp 3)⟩,
 ⟨(some 18), none, .mxmn true (.tmp 16) [(.tmp 17)]⟩,
 ⟨(some 19), none, .build [(.int .i64 0), (.int .i64 0)] [(0, 1, (.tmp 14)), (1, 1, (.tmp 18))]⟩,
 ⟨none, none, .store 2 (.tmp 2) (.tmp 19)⟩]))))))))
 (.seq (.reg [⟨(some 20), none, .load true 2 (.tmp 2)⟩,
 ⟨none, none, .store 2 (.tmp 2) (.tmp 20)⟩])
 (.ret))))
theorem k58 : FnC Try.prog 58 21 [2] [] [.cell 2 true 2] c58 1 := ⟨Try.f58, _, Try.func58, rfl, by decide, rfl, by decide, by kernel_rfl, by kernel_rfl⟩
/-- (*dipworks/towel.beach).ways -/
def c68 : AC :=
 .seq (.reg [⟨(some 2), none, .mov (.lit (.int .i64 0))⟩])
 (.seq (.seq (.reg [⟨(some 5), none, .mov (.tmp 0)⟩,
 ⟨(some 6), none, .mov (.tmp 0)⟩,
 ⟨(some 7), none, .mov (.tmp 0)⟩,
 ⟨(some 8), none, .call (.fn 55) [(.tmp 7)]⟩,
 ⟨(some 9), none, .ext (.tmp 8) 0⟩,
 ⟨(some 10), none, .ext (.tmp 8) 1⟩,
 ⟨(some 11), none, .call (.fn 54) [(.tmp 6), (.tmp 9), (.tmp 10)]⟩,
 ⟨(some 12), none, .call (.fn 53) [(.tmp 5), (.tmp 11)]⟩,
 ⟨(some 13), none, .rng (.tmp 12)⟩])
 (.block 0 (.loop (.seq (.reg [⟨(some 14), none, .nxt (.tmp 13)⟩,
 ⟨(some 15), none, .ext (.tmp 14) 0⟩])
 (.seq (.cond (.tmp 15) (.skip)
 (.exit 0))
 (.block 1 (.seq (.reg [⟨(some 16), none, .ent (.tmp 13)⟩,
 ⟨(some 17), none, .ext (.tmp 16) 1⟩,
 ⟨(some 4), none, .mov (.tmp 17)⟩])
 (.reg [⟨(some 18), none, .mov (.tmp 2)⟩,
 ⟨(some 19), none, .mov (.tmp 4)⟩,
 ⟨(some 20), none, .bin .add (.tmp 18) (.tmp 19)⟩,
 ⟨(some 2), none, .mov (.tmp 20)⟩]))))))))
 (.seq (.reg [⟨(some 21), none, .mov (.tmp 2)⟩,
 ⟨(some 2), none, .mov (.tmp 21)⟩])
 (.ret)))
theorem k68 : FnC Try.prog 68 22 [] [] [.tmp 2] c68 1 := ⟨Try.f68, _, Try.func68, rfl, by decide, rfl, by decide, by kernel_rfl, by kernel_rfl⟩
/-- dipworks/towel.best[int] -/
def c69 : AC :=
 .seq (.reg [⟨(some 3), none, .box (.tmp 1)⟩,
 ⟨(some 4), none, .mov (.lit (.int .i64 0))⟩,
 ⟨(some 5), none, .mov (.lit (.int .i64 0))⟩,
 ⟨(some 6), none, .mov (.lit (.bool false))⟩])
 (.seq (.seq (.reg [⟨(some 11), none, .mov (.tmp 0)⟩,
 ⟨(some 12), none, .len (.tmp 11)⟩,
 ⟨(some 13), none, .mov (.lit (.int .i64 0))⟩])
 (.block 0 (.loop (.seq (.reg [⟨(some 14), none, .bin .lss (.tmp 13) (.tmp 12)⟩])
 (.seq (.cond (.tmp 14) (.skip)
 (.exit 0))
 (.seq (.block 1 (.seq (.reg [⟨(some 15), none, .iaddr 1 (.tmp 11) (.tmp 13)⟩,
 ⟨(some 16), none, .load false 1 (.tmp 15)⟩,
 ⟨(some 8), none, .mov (.tmp 16)⟩])
 (.seq (.reg [⟨(some 18), none, .faddr 0 (.tmp 3)⟩,
 ⟨(some 19), none, .load false 1 (.tmp 18)⟩,
 ⟨(some 20), none, .mov (.tmp 8)⟩,
 ⟨(some 21), none, .call (.tmp 19) [(.tmp 20)]⟩,
 ⟨(some 17), none, .mov (.tmp 21)⟩,
 ⟨(some 22), none, .ext (.tmp 17) 0⟩,
 ⟨(some 23), none, .ext (.tmp 17) 1⟩,
 ⟨(some 9), none, .mov (.tmp 22)⟩,
 ⟨(some 10), none, .mov (.tmp 23)⟩])
 (.seq (.reg [⟨(some 24), none, .mov (.tmp 10)⟩,
 ⟨(some 25), none, .mov (.tmp 24)⟩,
 ⟨(some 26), (some (25, true)), .mov (.tmp 6)⟩,
 ⟨(some 27), (some (25, true)), .un .not (.tmp 26)⟩,
 ⟨(some 28), (some (25, true)), .mov (.tmp 27)⟩,
 ⟨(some 29), (some (28, false)), .mov (.tmp 9)⟩,
 ⟨(some 30), (some (28, false)), .mov (.tmp 5)⟩,
 ⟨(some 31), (some (28, false)), .bin .lss (.tmp 29) (.tmp 30)⟩,
 ⟨(some 32), (some (25, true)), .pick (.tmp 28) (.lit (.bool true)) (.tmp 31)⟩,
 ⟨(some 33), none, .pick (.tmp 25) (.tmp 32) (.lit (.bool false))⟩])
 (.cond (.tmp 33) (.reg [⟨(some 34), none, .mov (.tmp 8)⟩,
 ⟨(some 35), none, .mov (.tmp 9)⟩,
 ⟨(some 4), none, .mov (.tmp 34)⟩,
 ⟨(some 5), none, .mov (.tmp 35)⟩,
 ⟨(some 6), none, .mov (.lit (.bool true))⟩])
 (.skip))))))
 (.reg [⟨(some 36), none, .bin .add (.tmp 13) (.lit (.int .i64 1))⟩,
 ⟨(some 13), none, .mov (.tmp 36)⟩])))))))
 (.seq (.reg [⟨(some 37), none, .mov (.tmp 4)⟩,
 ⟨(some 38), none, .mov (.tmp 5)⟩,
 ⟨(some 39), none, .mov (.tmp 6)⟩,
 ⟨(some 4), none, .mov (.tmp 37)⟩,
 ⟨(some 5), none, .mov (.tmp 38)⟩,
 ⟨(some 6), none, .mov (.tmp 39)⟩])
 (.ret)))
theorem k69 : FnC Try.prog 69 40 [] [] [.tmp 4, .tmp 5, .tmp 6] c69 2 := ⟨Try.f69, _, Try.func69, rfl, by decide, rfl, by decide, by kernel_rfl, by kernel_rfl⟩
/-- dipworks/towel.upTo -/
def c70 : AC :=
 .seq (.reg [⟨(some 2), none, .mov (.lit (.slice none 0 0))⟩])
 (.seq (.seq (.reg [⟨(some 4), none, .mov (.tmp 0)⟩,
 ⟨(some 5), none, .mov (.lit (.int .i64 0))⟩])
 (.block 0 (.loop (.seq (.reg [⟨(some 6), none, .bin .lss (.tmp 5) (.tmp 4)⟩])
 (.seq (.cond (.tmp 6) (.skip)
 (.exit 0))
 (.seq (.block 1 (.seq (.reg [⟨(some 7), none, .mov (.tmp 5)⟩,
 ⟨(some 3), none, .mov (.tmp 7)⟩])
 (.reg [⟨(some 8), none, .mov (.tmp 2)⟩,
 ⟨(some 9), none, .mov (.tmp 3)⟩,
 ⟨(some 10), none, .bslice 1 (.int .i64 0) 1 [(0, (.tmp 9))]⟩,
 ⟨(some 11), none, .app 1 8 (.tmp 8) (.tmp 10)⟩,
 ⟨(some 2), none, .mov (.tmp 11)⟩])))
 (.reg [⟨(some 12), none, .bin .add (.tmp 5) (.lit (.int .i64 1))⟩,
 ⟨(some 5), none, .mov (.tmp 12)⟩])))))))
 (.seq (.reg [⟨(some 13), none, .mov (.tmp 2)⟩,
 ⟨(some 2), none, .mov (.tmp 13)⟩])
 (.ret)))
theorem k70 : FnC Try.prog 70 14 [] [] [.tmp 2] c70 1 := ⟨Try.f70, _, Try.func70, rfl, by decide, rfl, by decide, by kernel_rfl, by kernel_rfl⟩
/-- dipworks/towel.Search$1 -/
def c71 : AC :=
 .seq (.reg [⟨(some 3), none, .mov (.lit (.int .i64 0))⟩,
 ⟨(some 4), none, .mov (.lit (.bool false))⟩])
 (.seq (.reg [⟨(some 5), none, .mov (.lit (.int .i64 0))⟩])
 (.seq (.seq (.reg [⟨(some 8), none, .load false 1 (.tmp 1)⟩,
 ⟨(some 9), none, .mov (.tmp 0)⟩,
 ⟨(some 10), none, .call (.fn 61) [(.tmp 8), (.tmp 9)]⟩,
 ⟨(some 11), none, .rng (.tmp 10)⟩])
 (.block 0 (.loop (.seq (.reg [⟨(some 12), none, .nxt (.tmp 11)⟩,
 ⟨(some 13), none, .ext (.tmp 12) 0⟩])
 (.seq (.cond (.tmp 13) (.skip)
 (.exit 0))
 (.block 1 (.seq (.reg [⟨(some 14), none, .ent (.tmp 11)⟩,
 ⟨(some 15), none, .ext (.tmp 14) 1⟩,
 ⟨(some 7), none, .mov (.tmp 15)⟩])
 (.reg [⟨(some 16), none, .mov (.tmp 5)⟩,
 ⟨(some 17), none, .mov (.tmp 7)⟩,
 ⟨(some 18), none, .mxmn true (.tmp 16) [(.tmp 17)]⟩,
 ⟨(some 5), none, .mov (.tmp 18)⟩]))))))))
 (.seq (.reg [⟨(some 19), none, .mov (.tmp 5)⟩,
 ⟨(some 3), none, .mov (.tmp 19)⟩,
 ⟨(some 4), none, .mov (.lit (.bool true))⟩])
 (.ret))))
theorem k71 : FnC Try.prog 71 20 [] [] [.tmp 3, .tmp 4] c71 2 := ⟨Try.f71, _, Try.func71, rfl, by decide, rfl, by decide, by kernel_rfl, by kernel_rfl⟩
/-- dipworks/towel.isSpan -/
def c102 : AC :=
 .seq (.reg [⟨(some 2), none, .box (.tmp 0)⟩,
 ⟨(some 4), none, .mov (.lit (.bool false))⟩])
 (.seq (.reg [⟨(some 5), none, .faddr 0 (.tmp 2)⟩,
 ⟨(some 6), none, .load false 1 (.tmp 5)⟩,
 ⟨(some 7), none, .bin .leq (.lit (.int .i64 0)) (.tmp 6)⟩,
 ⟨(some 8), none, .mov (.tmp 7)⟩,
 ⟨(some 9), (some (8, true)), .faddr 0 (.tmp 2)⟩,
 ⟨(some 10), (some (8, true)), .load false 1 (.tmp 9)⟩,
 ⟨(some 11), (some (8, true)), .faddr 1 (.tmp 2)⟩,
 ⟨(some 12), (some (8, true)), .load false 1 (.tmp 11)⟩,
 ⟨(some 13), (some (8, true)), .bin .leq (.tmp 10) (.tmp 12)⟩,
 ⟨(some 14), none, .pick (.tmp 8) (.tmp 13) (.lit (.bool false))⟩,
 ⟨(some 15), none, .mov (.tmp 14)⟩,
 ⟨(some 16), (some (15, true)), .faddr 1 (.tmp 2)⟩,
 ⟨(some 17), (some (15, true)), .load false 1 (.tmp 16)⟩,
 ⟨(some 18), (some (15, true)), .mov (.tmp 1)⟩,
 ⟨(some 19), (some (15, true)), .bin .leq (.tmp 17) (.tmp 18)⟩,
 ⟨(some 20), none, .pick (.tmp 15) (.tmp 19) (.lit (.bool false))⟩,
 ⟨(some 4), none, .mov (.tmp 20)⟩])
 (.ret))
theorem k102 : FnC Try.prog 102 21 [] [] [.tmp 4] c102 2 := ⟨Try.f102, _, Try.func102, rfl, by decide, rfl, by decide, by kernel_rfl, by kernel_rfl⟩
/-- (*dipworks/towel.beach).can -/
def c104 : AC :=
 .seq (.reg [⟨(some 2), none, .box (.tmp 0)⟩,
 ⟨(some 3), none, .box (.tmp 1)⟩,
 ⟨(some 4), none, .mov (.lit .nilFunc)⟩])
 (.seq (.reg [⟨(some 5), none, .mkfn (.func 113) [] [(.tmp 2), (.tmp 3)]⟩,
 ⟨(some 4), none, .mov (.tmp 5)⟩])
 (.ret))
theorem k104 : FnC Try.prog 104 6 [] [] [.tmp 4] c104 2 := ⟨Try.f104, _, Try.func104, rfl, by decide, rfl, by decide, by kernel_rfl, by kernel_rfl⟩
/-- (dipworks/towel.sums).with -/
def c103 : AC :=
 .seq (.reg [⟨(some 3), none, .box (.tmp 0)⟩,
 ⟨(some 4), none, .box (.tmp 1)⟩,
 ⟨(some 6), none, .alloc [(.int .i64 0), (.int .i64 0), (.int .i64 0), (.int .i64 0), (.int .i64 0), (.int .i64 0)]⟩])
 (.seq (.reg [⟨(some 7), none, .faddr 0 (.tmp 4)⟩,
 ⟨(some 8), none, .load false 1 (.tmp 7)⟩,
 ⟨(some 9), none, .faddr 0 (.tmp 3)⟩,
 ⟨(some 10), none, .iaddrA 3 1 (.tmp 9) (.tmp 8)⟩,
 ⟨(some 11), none, .load false 1 (.tmp 10)⟩,
 ⟨(some 12), none, .mov (.tmp 2)⟩,
 ⟨(some 13), none, .bin .add (.tmp 11) (.tmp 12)⟩,
 ⟨(some 14), none, .faddr 0 (.tmp 3)⟩,
 ⟨(some 15), none, .iaddrA 3 1 (.tmp 14) (.tmp 8)⟩,
 ⟨none, none, .store 1 (.tmp 15) (.tmp 13)⟩])
 (.seq (.reg [⟨(some 16), none, .faddr 1 (.tmp 4)⟩,
 ⟨(some 17), none, .load false 1 (.tmp 16)⟩,
 ⟨(some 18), none, .faddr 3 (.tmp 3)⟩,
 ⟨(some 19), none, .iaddrA 3 1 (.tmp 18) (.tmp 17)⟩,
 ⟨(some 20), none, .load false 1 (.tmp 19)⟩,
 ⟨(some 21), none, .mov (.tmp 2)⟩,
 ⟨(some 22), none, .bin .add (.tmp 20) (.tmp 21)⟩,
 ⟨(some 23), none, .faddr 3 (.tmp 3)⟩,
 ⟨(some 24), none, .iaddrA 3 1 (.tmp 23) (.tmp 17)⟩,
 ⟨none, none, .store 1 (.tmp 24) (.tmp 22)⟩])
 (.seq (.reg [⟨(some 25), none, .load true 6 (.tmp 3)⟩,
 ⟨none, none, .store 6 (.tmp 6) (.tmp 25)⟩])
 (.ret))))
theorem k103 : FnC Try.prog 103 26 [6] [] [.cell 6 true 6] c103 3 := ⟨Try.f103, _, Try.func103, rfl, by decide, rfl, by decide, by kernel_rfl, by kernel_rfl⟩
/-- (*dipworks/towel.beach).can$1 -/
def c113 : AC :=
 .scope (.seq (.reg [⟨(some 7), none, .load false 1 (.tmp 1)⟩,
 ⟨(some 8), none, .mkfn (.func 112) [(.tmp 7)] []⟩,
 ⟨(some 4), none, .mov (.tmp 8)⟩])
 (.seq (.skip)
 (.seq (.draw (.step ⟨(some 9), none, .mov (.tmp 4)⟩ (
 .step ⟨(some 10), none, .load false 1 (.tmp 2)⟩ (
 .step ⟨(some 13), none, .mov (.tmp 4)⟩ (
 .step ⟨(some 14), none, .load false 1 (.tmp 2)⟩ (
 .ev ⟨(some 11), none, .call (.tmp 9) [(.tmp 10)]⟩ [⟨(some 14), none, .load false 1 (.tmp 2)⟩] (
 .step ⟨(some 12), none, .field 0 false 1 (.tmp 11)⟩ (
 .ev ⟨(some 15), none, .call (.tmp 13) [(.tmp 14)]⟩ [⟨(some 10), none, .load false 1 (.tmp 2)⟩] (
 .ev ⟨(some 6), none, .alloc [(.int .i64 0), (.int .i64 0)]⟩ [⟨(some 14), none, .load false 1 (.tmp 2)⟩, ⟨(some 10), none, .load false 1 (.tmp 2)⟩] (
 .step ⟨(some 5), none, .mov (.tmp 12)⟩ (
 .ev ⟨none, none, .store 2 (.tmp 6) (.tmp 15)⟩ [] (
 .done)
 (.stop)))
 (.stop))
 (.ev ⟨(some 6), none, .alloc [(.int .i64 0), (.int .i64 0)]⟩ [⟨(some 14), none, .load false 1 (.tmp 2)⟩, ⟨(some 10), none, .load false 1 (.tmp 2)⟩] (
 .ev ⟨(some 15), none, .call (.tmp 13) [(.tmp 14)]⟩ [⟨(some 10), none, .load false 1 (.tmp 2)⟩] (
 .step ⟨(some 5), none, .mov (.tmp 12)⟩ (
 .ev ⟨none, none, .store 2 (.tmp 6) (.tmp 15)⟩ [] (
 .done)
 (.stop)))
 (.stop))
 (.stop))))
 (.ev ⟨(some 6), none, .alloc [(.int .i64 0), (.int .i64 0)]⟩ [⟨(some 14), none, .load false 1 (.tmp 2)⟩, ⟨(some 10), none, .load false 1 (.tmp 2)⟩] (
 .ev ⟨(some 11), none, .call (.tmp 9) [(.tmp 10)]⟩ [⟨(some 14), none, .load false 1 (.tmp 2)⟩] (
 .step ⟨(some 12), none, .field 0 false 1 (.tmp 11)⟩ (
 .ev ⟨(some 15), none, .call (.tmp 13) [(.tmp 14)]⟩ [⟨(some 10), none, .load false 1 (.tmp 2)⟩] (
 .step ⟨(some 5), none, .mov (.tmp 12)⟩ (
 .ev ⟨none, none, .store 2 (.tmp 6) (.tmp 15)⟩ [] (
 .done)
 (.stop)))
 (.stop)))
 (.stop))
 (.stop))))))))
 (.block 0 (.loop (.seq (.seq (.reg [⟨(some 16), none, .mov (.tmp 5)⟩,
 ⟨(some 17), none, .faddr 1 (.tmp 6)⟩,
 ⟨(some 18), none, .load false 1 (.tmp 17)⟩,
 ⟨(some 19), none, .bin .leq (.tmp 16) (.tmp 18)⟩])
 (.cond (.tmp 19) (.skip)
 (.exit 0)))
 (.seq (.block 1 (.seq (.seq (.draw (.step ⟨(some 22), none, .load false 1 (.tmp 2)⟩ (
 .step ⟨(some 23), none, .load false 1 (.tmp 1)⟩ (
 .step ⟨(some 24), none, .nilck (.tmp 23)⟩ (
 .step ⟨(some 25), none, .faddr 3 (.tmp 24)⟩ (
 .step ⟨(some 26), none, .load false 1 (.tmp 25)⟩ (
 .step ⟨(some 27), none, .bin .eql (.tmp 22) (.tmp 26)⟩ (
 .step ⟨(some 28), none, .mov (.tmp 27)⟩ (
 .step ⟨(some 29), (some (28, true)), .mov (.tmp 5)⟩ (
 .step ⟨(some 30), (some (28, true)), .load false 1 (.tmp 1)⟩ (
 .step ⟨(some 31), (some (28, true)), .nilck (.tmp 30)⟩ (
 .step ⟨(some 32), (some (28, true)), .faddr 4 (.tmp 31)⟩ (
 .step ⟨(some 33), (some (28, true)), .load false 1 (.tmp 32)⟩ (
 .step ⟨(some 34), (some (28, true)), .bin .neq (.tmp 29) (.tmp 33)⟩ (
 .step ⟨(some 35), none, .pick (.tmp 28) (.tmp 34) (.lit (.bool false))⟩ (
 .step ⟨(some 36), none, .mov (.tmp 35)⟩ (
 .step ⟨(some 37), (some (36, false)), .load false 1 (.tmp 1)⟩ (
 .step ⟨(some 38), (some (36, false)), .nilck (.tmp 37)⟩ (
 .step ⟨(some 39), (some (36, false)), .faddr 5 (.tmp 38)⟩ (
 .step ⟨(some 40), (some (36, false)), .load false 1 (.tmp 39)⟩ (
 .step ⟨(some 41), (some (36, false)), .load false 1 (.tmp 2)⟩ (
 .step ⟨(some 42), (some (36, false)), .bin .shr (.tmp 40) (.tmp 41)⟩ (
 .step ⟨(some 43), (some (36, false)), .bin .and (.tmp 42) (.lit (.int .i64 1))⟩ (
 .step ⟨(some 44), (some (36, false)), .bin .eql (.tmp 43) (.lit (.int .i64 1))⟩ (
 .step ⟨(some 45), (some (36, false)), .mov (.tmp 44)⟩ (
 .step ⟨(some 46), (some (45, true)), .mov (.tmp 5)⟩ (
 .step ⟨(some 47), (some (45, true)), .bin .gtr (.tmp 46) (.lit (.int .i64 0))⟩ (
 .step ⟨(some 48), (some (36, false)), .pick (.tmp 45) (.tmp 47) (.lit (.bool false))⟩ (
 .step ⟨(some 49), none, .pick (.tmp 36) (.lit (.bool true)) (.tmp 48)⟩ (
 .done))))))))))))))))))))))))))))))
 (.cond (.tmp 49) (.exit 1)
 (.skip)))
 (.seq (.reg [⟨(some 50), none, .mov (.tmp 0)⟩,
 ⟨(some 51), none, .mov (.tmp 5)⟩,
 ⟨(some 52), none, .call (.tmp 50) [(.tmp 51)]⟩,
 ⟨(some 53), none, .un .not (.tmp 52)⟩])
 (.cond (.tmp 53) (.ret)
 (.skip)))))
 (.seq (.seq (.reg [⟨(some 54), none, .load true 2 (.tmp 6)⟩])
 (.reg [⟨(some 6), none, .alloc [(.int .i64 0), (.int .i64 0)]⟩,
 ⟨none, none, .store 2 (.tmp 6) (.tmp 54)⟩]))
 (.reg [⟨(some 20), none, .mov (.tmp 5)⟩,
 ⟨(some 21), none, .bin .add (.tmp 20) (.lit (.int .i64 1))⟩,
 ⟨(some 5), none, .mov (.tmp 21)⟩])))))))))
theorem k113 : FnC Try.prog 113 55 [] [] [] c113 3 := ⟨Try.f113, _, Try.func113, rfl, by decide, rfl, by decide, by kernel_rfl, by kernel_rfl⟩
/-- (dipworks/towel.byHut).right -/
def c134 : AC :=
 .seq (.reg [⟨(some 2), none, .box (.tmp 0)⟩,
 ⟨(some 3), none, .box (.tmp 1)⟩,
 ⟨(some 4), none, .mov (.lit (.bool false))⟩])
 (.seq (.draw (.step ⟨(some 5), none, .faddr 0 (.tmp 2)⟩ (
 .step ⟨(some 6), none, .load false 1 (.tmp 5)⟩ (
 .step ⟨(some 7), none, .faddr 0 (.tmp 3)⟩ (
 .step ⟨(some 8), none, .iaddrA 3 1 (.tmp 7) (.tmp 6)⟩ (
 .step ⟨(some 9), none, .load false 1 (.tmp 8)⟩ (
 .step ⟨(some 10), none, .faddr 1 (.tmp 2)⟩ (
 .step ⟨(some 11), none, .faddr 0 (.tmp 10)⟩ (
 .step ⟨(some 12), none, .load false 1 (.tmp 11)⟩ (
 .step ⟨(some 13), none, .faddr 1 (.tmp 2)⟩ (
 .step ⟨(some 14), none, .faddr 1 (.tmp 13)⟩ (
 .step ⟨(some 15), none, .load false 1 (.tmp 14)⟩ (
 .ev ⟨(some 16), none, .call (.fn 59) [(.tmp 9), (.tmp 12), (.tmp 15)]⟩ [⟨(some 14), none, .faddr 1 (.tmp 13)⟩, ⟨(some 13), none, .faddr 1 (.tmp 2)⟩, ⟨(some 11), none, .faddr 0 (.tmp 10)⟩, ⟨(some 10), none, .faddr 1 (.tmp 2)⟩, ⟨(some 8), none, .iaddrA 3 1 (.tmp 7) (.tmp 6)⟩, ⟨(some 7), none, .faddr 0 (.tmp 3)⟩, ⟨(some 6), none, .load false 1 (.tmp 5)⟩, ⟨(some 5), none, .faddr 0 (.tmp 2)⟩] (
 .step ⟨(some 4), none, .mov (.tmp 16)⟩ (
 .done))
 (.stop))))))))))))))
 (.ret))
theorem k134 : FnC Try.prog 134 17 [] [] [.tmp 4] c134 2 := ⟨Try.f134, _, Try.func134, rfl, by decide, rfl, by decide, by kernel_rfl, by kernel_rfl⟩
/-- (dipworks/towel.byHalf).right -/
def c135 : AC :=
 .seq (.reg [⟨(some 2), none, .box (.tmp 0)⟩,
 ⟨(some 3), none, .box (.tmp 1)⟩,
 ⟨(some 4), none, .mov (.lit (.bool false))⟩])
 (.seq (.draw (.step ⟨(some 5), none, .faddr 0 (.tmp 2)⟩ (
 .step ⟨(some 6), none, .load false 1 (.tmp 5)⟩ (
 .step ⟨(some 7), none, .faddr 3 (.tmp 3)⟩ (
 .step ⟨(some 8), none, .iaddrA 3 1 (.tmp 7) (.tmp 6)⟩ (
 .step ⟨(some 9), none, .load false 1 (.tmp 8)⟩ (
 .step ⟨(some 10), none, .faddr 1 (.tmp 2)⟩ (
 .step ⟨(some 11), none, .faddr 0 (.tmp 10)⟩ (
 .step ⟨(some 12), none, .load false 1 (.tmp 11)⟩ (
 .step ⟨(some 13), none, .faddr 1 (.tmp 2)⟩ (
 .step ⟨(some 14), none, .faddr 1 (.tmp 13)⟩ (
 .step ⟨(some 15), none, .load false 1 (.tmp 14)⟩ (
 .ev ⟨(some 16), none, .call (.fn 59) [(.tmp 9), (.tmp 12), (.tmp 15)]⟩ [⟨(some 14), none, .faddr 1 (.tmp 13)⟩, ⟨(some 13), none, .faddr 1 (.tmp 2)⟩, ⟨(some 11), none, .faddr 0 (.tmp 10)⟩, ⟨(some 10), none, .faddr 1 (.tmp 2)⟩, ⟨(some 8), none, .iaddrA 3 1 (.tmp 7) (.tmp 6)⟩, ⟨(some 7), none, .faddr 3 (.tmp 3)⟩, ⟨(some 6), none, .load false 1 (.tmp 5)⟩, ⟨(some 5), none, .faddr 0 (.tmp 2)⟩] (
 .step ⟨(some 4), none, .mov (.tmp 16)⟩ (
 .done))
 (.stop))))))))))))))
 (.ret))
theorem k135 : FnC Try.prog 135 17 [] [] [.tmp 4] c135 2 := ⟨Try.f135, _, Try.func135, rfl, by decide, rfl, by decide, by kernel_rfl, by kernel_rfl⟩
end Go.Proofs.Ytcpkkjbkbdmopaa

/- What towels are, in plain Lean; the small functions of the program. -/
namespace Go.Proofs.Ytcpkkjbkbdmopaa
open Go Go.Ab

structure B where
  hut : Int
  half : Int
  ll : Int
  lh : Int
  bl : Int
  bh : Int
  deriving DecidableEq

structure Tw where
  bs : List B
  hs : List (Int × Int)
  vs : List (Int × Int)

def tS (s : Int × Int) : T := .agg [vi s.1, vi s.2]
def tB (b : B) : T := .agg [vi b.hut, vi b.half, vi b.ll, vi b.lh, vi b.bl, vi b.bh]
def tw3 (t : Tw) : List T := [.slice 6 (t.bs.map tB), .slice 2 (t.hs.map tS), .slice 2 (t.vs.map tS)]
def tBeach (t : Tw) (only number none : Int) : T := .ptr (.agg [.slice 6 (t.bs.map tB), .slice 2 (t.hs.map tS), .slice 2 (t.vs.map tS), vi only, vi number, vi none]) 0

def wI (n lo hi : Int) : Bool := decide (lo ≤ n ∧ n ≤ hi)

theorem within_ok (n lo hi : Int) : ACall Try.prog 59 [.t (vi n), .t (vi lo), .t (vi hi)] [] (ret (vb (wI n lo hi))) := by
  refine ACall.walk k59 ?_
  unfold c59
  simp only [go_sem, Nat.reduceEqDiff, Nat.reduceAdd]
  refine BrL.mk (fun h => ?_) (fun h => ?_)
  all_goals simp only [h, go_sem, Nat.reduceEqDiff]
  all_goals refine finL_ret [] ⟨rfl, rfl, rfl, rfl, _, rfl, ret_mk ?_⟩
  all_goals simp at h
  all_goals simp [wI, h]
  omega

def okS (s : Int × Int) (h : Int) : Bool := decide (0 ≤ s.1 ∧ s.1 ≤ s.2 ∧ s.2 ≤ h)

theorem isSpan_ok (s : Int × Int) (n : Int) : ACall Try.prog 102 [.t (tS s), .t (vi n)] [] (ret (vb (okS s n))) := by
  refine ACall.walk k102 ?_
  unfold c102 tS
  simp only [go_sem, Nat.reduceEqDiff, Nat.reduceAdd]
  refine BrL.mk (fun h => ?_) (fun h => ?_)
  all_goals simp only [h, go_sem, Nat.reduceEqDiff, Nat.reduceAdd]
  · refine BrL.mk (fun h' => ?_) (fun h' => ?_)
    all_goals simp only [h', go_sem, Nat.reduceEqDiff, Nat.reduceAdd]
    all_goals refine finL_ret [] ⟨rfl, rfl, rfl, rfl, _, rfl, ret_mk ?_⟩
    all_goals simp at h h'
    all_goals simp [okS, h, h']
    omega
  · refine finL_ret [] ⟨rfl, rfl, rfl, rfl, _, rfl, ret_mk ?_⟩
    simp at h
    simp [okS]
    omega

/-- A refusal. -/
def rfs (e : Int) : T := .iface 133 (vi e)

abbrev askO (is : Bool) (e : Int) : Out := if is then .ret (.tup []) else .pan (rfs e)

theorem ask_ok (is : Bool) (e : Int) : ACall Try.prog 57 [.t (vb is), .t (vi e)] [] (res (askO is e)) := by
  refine ACall.walk k57 ?_
  unfold c57
  cases is
  all_goals simp only [go_sem, Nat.reduceEqDiff, Bool.not_true, Bool.not_false]
  · exact finL_pan [] ⟨rfl, rfl, rfl, rfl, res_mk rfl⟩
  · exact finL_ret [] ⟨rfl, rfl, rfl, rfl, _, rfl, res_mk (by simp [E.gc])⟩

/-! ### open -/
def okB (t : Tw) (b : B) : Bool := wI b.hut 0 (t.hs.length - 1) && wI b.half 0 (t.vs.length - 1) && okS (b.ll, b.lh) 4 && okS (b.bl, b.bh) 4 && decide (b.bl ≤ b.lh)
def sameP (a b : B) : Bool := a.hut == b.hut && a.half == b.half
def okBs (t : Tw) : List B → List B → Bool
  | _, [] => true
  | seen, b :: bs => okB t b && !(seen.any (sameP b)) && okBs t (seen ++ [b]) bs
def Tw.ok (t : Tw) : Bool := decide (t.bs.length ≤ 6 ∧ t.hs.length ≤ 3 ∧ t.vs.length ≤ 3) && t.hs.all (okS · 24) && t.vs.all (okS · 24) && okBs t [] t.bs


abbrev sh2 : Sh := (some [some .i64, some .i64], none)
def seenK (l : List B) : List (Nat × List Int) := l.zipIdx.map fun (b, i) => (i, [b.hut, b.half])

theorem seen_find (l : List B) (b : B) : kfind sh2 (seenK l) [b.hut, b.half] = l.findIdx? (sameP b) := by
  unfold kfind seenK
  rw [List.findIdx?_map]
  have : ∀ (l : List B) (n : Nat), (l.zipIdx n).findIdx? ((fun e => kEq (shKinds sh2) [b.hut, b.half] e.2) ∘ fun (b, i) => (i, [b.hut, b.half])) = l.findIdx? (sameP b) := by
    intro l
    induction l with
    | nil => intro n; rfl
    | cons x l ih =>
      intro n
      simp only [List.zipIdx_cons, List.findIdx?_cons]
      rw [ih]
      have : ((fun e : Nat × List Int => kEq (shKinds sh2) [b.hut, b.half] e.2) ∘ fun (x : B × Nat) => (x.2, [x.1.hut, x.1.half])) (x, n) = sameP b x := by
        simp [shKinds, kEq, cellEq, sameP]
      rw [this]
  exact this l 0

theorem seen_push (l : List B) (b : B) : seenK l ++ [(l.length, [b.hut, b.half])] = seenK (l ++ [b]) := by
  simp [seenK, List.zipIdx_append]

set_option maxRecDepth 4000 in
theorem open_ok (t : Tw) (is : Bool) : ACall Try.prog 52 [.t (.agg (tw3 t)), .t (vb is)] [] (res (if t.ok then (if is then .ret (.t (tBeach t (-1) 0 0)) else .pan (rfs 2)) else .pan (rfs 1))) := by
  refine ACall.walk k52 ?_
  unfold c52 tw3
  have fail : ∀ {s : St}, t.ok = false → s.df = [] → s.k = 0 → @finL 0 0 ⟨[.tmp 4]⟩ ⟨res (if t.ok then (if is then .ret (.t (tBeach t (-1) 0 0)) else .pan (rfs 2)) else .pan (rfs 1))⟩ (.pan (rfs 1)) s := fun h h1 h2 =>
    finL_pan [] ⟨by rw [h1]; rfl, h2, rfl, rfl, res_mk (by rw [h]; rfl)⟩
  simp only [go_sem, Nat.reduceEqDiff, Nat.reduceAdd, List.length_map]
  refine BrL.mk (fun h1 => ?_) (fun h1 => ?_)
  all_goals simp only [h1, go_sem, Nat.reduceEqDiff, Nat.reduceAdd, List.length_map]
  rotate_left
  · refine ACallL.quiet1 (ask_ok false 1) rfl rfl rfl ?_
    simp only [go_sem, askO, Bool.false_eq_true, if_false]
    exact fail (by simp [Tw.ok] at h1 ⊢; omega) rfl rfl
  refine BrL.mk (fun h2 => ?_) (fun h2 => ?_)
  all_goals simp only [h2, go_sem, Nat.reduceEqDiff, Nat.reduceAdd, List.length_map]
  rotate_left
  · refine ACallL.quiet1 (ask_ok false 1) rfl rfl rfl ?_
    simp only [go_sem, askO, Bool.false_eq_true, if_false]
    exact fail (by simp [Tw.ok] at h2 ⊢; omega) rfl rfl
  refine ACallL.quiet1 (ask_ok _ 1) rfl rfl (by simp only [askO]; split <;> rfl) ?_
  generalize h3 : decide ((t.vs.length : Int) ≤ 3) = b3
  cases b3
  · simp only [go_sem, askO, Bool.false_eq_true, if_false]
    exact fail (by simp [Tw.ok] at h3 ⊢; omega) rfl rfl
  simp only [go_sem, askO, if_true, Nat.reduceEqDiff, Nat.reduceAdd, Nat.reduceLT, Nat.reduceLeDiff]
  have hl : t.bs.length ≤ 6 ∧ t.hs.length ≤ 3 ∧ t.vs.length ≤ 3 := by simp at h1 h2 h3; omega
  clear h1 h2 h3
  -- huts and halves
  refine awpL_for (i := 35) (L := 34) 2 (fun k s => s = { env := [(35, .t (vi k)), (34, .t (vi 2)), (33, .t (.slice 1 [.slice 2 (t.hs.map tS), .slice 2 (t.vs.map tS)])), (2, .t (.ptr (.agg (tw3 t)) 0)), (1, .t (vb is))], σ := [] } ∧ (1 ≤ k → t.hs.all (okS · 24) = true) ∧ (2 ≤ k → t.vs.all (okS · 24) = true))
    ?_ ⟨_, Sub.gc [] [35, 34, 33, 2, 1] rfl rfl, ⟨rfl, by omega, by omega⟩⟩ ?_ ?_
  · rintro k s ⟨rfl, _⟩; exact ⟨rfl, rfl⟩
  · rintro k s hk ⟨rfl, a1, a2⟩
    obtain ⟨l, hl, hl1, hl2, hl3, hl4⟩ : ∃ l : List (Int × Int), [T.slice 2 (t.hs.map tS), T.slice 2 (t.vs.map tS)][k]? = some (T.slice 2 (l.map tS)) ∧ l.length ≤ 3 ∧ (t.ok = true → l.all (okS · 24) = true) ∧ (k = 0 → l = t.hs) ∧ (k = 1 → l = t.vs) := by
      rcases (by omega : k = 0 ∨ k = 1) with rfl | rfl
      · exact ⟨t.hs, rfl, hl.2.1, fun h => by simp only [Tw.ok, Bool.and_eq_true] at h; exact h.1.1.2, fun _ => rfl, by omega⟩
      · exact ⟨t.vs, rfl, hl.2.2, fun h => by simp only [Tw.ok, Bool.and_eq_true] at h; exact h.1.2, by omega, fun _ => rfl⟩
    simp only [go_sem, Nat.reduceEqDiff, hl, List.length_map]
    refine awpL_for (i := 41) (L := 40) l.length (fun j s => s = { env := [(41, .t (vi j)), (40, .t (vi l.length)), (39, .t (.slice 2 (l.map tS))), (35, .t (vi k)), (34, .t (vi 2)), (33, .t (.slice 1 [.slice 2 (t.hs.map tS), .slice 2 (t.vs.map tS)])), (2, .t (.ptr (.agg (tw3 t)) 0)), (1, .t (vb is))], σ := [] } ∧ (l.take j).all (okS · 24) = true)
      ?_ ⟨_, Sub.gc [] [41, 40, 39, 35, 34, 33, 2, 1] rfl rfl, ⟨rfl, rfl⟩⟩ ?_ ?_
    · rintro k s ⟨rfl, _⟩; exact ⟨rfl, rfl⟩
    · rintro j s hj ⟨rfl, a3⟩
      simp only [go_sem, Nat.reduceEqDiff, List.getElem?_map, List.getElem?_eq_getElem hj]
      simp only [tS, go_sem, Nat.reduceEqDiff, Nat.reduceAdd]
      refine ACallL.quiet1 (isSpan_ok l[j] 24) rfl rfl rfl ?_
      simp only [go_sem, Nat.reduceEqDiff]
      refine ACallL.quiet1 (ask_ok _ 1) rfl rfl (by simp only [askO]; split <;> rfl) ?_
      cases hs : okS l[j] 24
      · simp only [go_sem, askO, Bool.false_eq_true, if_false]
        refine fail ?_ rfl rfl
        cases hok : t.ok
        · rfl
        · have := List.all_eq_true.1 (hl2 hok) l[j] (List.getElem_mem hj)
          rw [hs] at this; cases this
      · simp only [go_sem, askO, if_true, Nat.reduceEqDiff]
        refine ⟨_, Sub.gc [] [41, 40, 39, 35, 34, 33, 2, 1] rfl rfl, ?_, ?_⟩
        · have : IntKind.i64.wrap ((j : Int) + 1) = ((j + 1 : Nat) : Int) := by rw [wrap_id (by omega) (by omega)]; omega
          rw [this]; rfl
        · rw [List.take_succ_eq_append_getElem hj, List.all_append, a3]; simp only [List.all_cons, List.all_nil, hs, Bool.and_true]
    · rintro s ⟨rfl, a3⟩
      simp only [go_sem, Nat.reduceEqDiff, Nat.reduceLeDiff]
      refine ⟨_, Sub.gc [] [35, 34, 33, 2, 1] rfl rfl, ?_, ?_, ?_⟩
      · have : IntKind.i64.wrap ((k : Int) + 1) = ((k + 1 : Nat) : Int) := by rw [wrap_id (by omega) (by omega)]; omega
        rw [this]; rfl
      all_goals rw [List.take_length] at a3
      · try intro _
        by_cases h0 : k = 0
        · rw [← hl3 h0]; exact a3
        · exact a1 (by omega)
      · intro h2
        rw [← hl4 (by omega)]; exact a3
  · rintro s ⟨rfl, a1, a2⟩
    simp only [tw3, go_sem, Nat.reduceEqDiff, List.length_map]
    have a1 := a1 (by omega)
    have a2 := a2 (by omega)
    refine awpL_for (i := 54) (L := 53) t.bs.length (fun k s => s = { env := [(54, .t (vi k)), (53, .t (vi t.bs.length)), (52, .t (.slice 6 (t.bs.map tB))), (9, .map 0), (2, .t (.ptr (.agg (tw3 t)) 0)), (1, .t (vb is))], σ := [.map sh2 (seenK (t.bs.take k)) ((t.bs.take k).map fun _ => vb true) (t.bs.take k).length] } ∧ (t.ok = okBs t (t.bs.take k) (t.bs.drop k)))
      ?_ ⟨_, Sub.gc [0] [54, 53, 52, 9, 2, 1] rfl rfl, ⟨rfl, ?_⟩⟩ ?_ ?_
    · rintro k s ⟨rfl, _⟩; exact ⟨rfl, rfl⟩
    · simp [Tw.ok, a1, a2, hl]
    · rintro k s hk ⟨rfl, a3⟩
      have hdrop : t.bs.drop k = t.bs[k] :: t.bs.drop (k + 1) := List.drop_eq_getElem_cons hk
      rw [hdrop] at a3
      generalize hb : t.bs[k] = b at *
      simp only [tw3, go_sem, Nat.reduceEqDiff, List.getElem?_map, List.getElem?_eq_getElem hk, hb]
      simp only [tB, go_sem, Nat.reduceEqDiff, Nat.reduceAdd, Nat.reduceLeDiff, List.length_map]
      generalize hse : t.bs.take k = seen at *
      have e1 : IntKind.i64.wrap ((t.hs.length : Int) - 1) = t.hs.length - 1 := wrap_id (by omega) (by omega)
      have e2 : IntKind.i64.wrap ((t.vs.length : Int) - 1) = t.vs.length - 1 := wrap_id (by omega) (by omega)
      rw [e1]
      have bad : (okB t b && !(seen.any (sameP b))) = false → t.ok = false := fun h => by rw [a3]; simp only [okBs, h, Bool.false_and]
      have no : okB t b = false → t.ok = false := fun h => bad (by rw [h]; rfl)
      have stop : ∀ {σ : List AO} {R : Lz (Out → List AO → Prop)}, R.get (.pan (rfs 1)) σ → @ACallL Try.prog 57 [.t (vb false), .t (vi 1)] σ R := fun h => ACallL.quiet1 (ask_ok false 1) rfl rfl rfl h
      refine ACallL.quiet1 (within_ok _ _ _) rfl rfl rfl ?_
      cases g1 : wI b.hut 0 (t.hs.length - 1)
      · simp only [go_sem, Nat.reduceEqDiff]
        exact stop (by simp only [go_sem]; exact fail (no (by simp [okB, g1])) rfl rfl)
      simp only [go_sem, Nat.reduceEqDiff, Nat.reduceAdd, Nat.reduceLeDiff, e2, List.length_map]
      refine ACallL.quiet1 (within_ok _ _ _) rfl rfl rfl ?_
      cases g2 : wI b.half 0 (t.vs.length - 1)
      · simp only [go_sem, Nat.reduceEqDiff]
        exact stop (by simp only [go_sem]; exact fail (no (by simp [okB, g2])) rfl rfl)
      simp only [go_sem, Nat.reduceEqDiff, Nat.reduceAdd, Nat.reduceLeDiff]
      refine ACallL.quiet1 (isSpan_ok (b.ll, b.lh) _) rfl rfl rfl ?_
      cases g3 : okS (b.ll, b.lh) 4
      · simp only [go_sem, Nat.reduceEqDiff]
        exact stop (by simp only [go_sem]; exact fail (no (by simp [okB, g3])) rfl rfl)
      simp only [go_sem, Nat.reduceEqDiff, Nat.reduceAdd]
      refine ACallL.quiet1 (isSpan_ok (b.bl, b.bh) _) rfl rfl rfl ?_
      cases g4 : okS (b.bl, b.bh) 4
      · simp only [go_sem, Nat.reduceEqDiff]
        exact stop (by simp only [go_sem]; exact fail (no (by simp [okB, g4])) rfl rfl)
      simp only [go_sem, Nat.reduceEqDiff, Nat.reduceAdd, Nat.reduceLeDiff]
      cases g5 : decide (b.bl ≤ b.lh)
      · simp only [go_sem, Nat.reduceEqDiff]
        exact stop (by simp only [go_sem]; exact fail (no (by simp only [okB, g5, Bool.and_false])) rfl rfl)
      have hok : okB t b = true := by simp only [okB, g1, g2, g3, g4, g5, Bool.and_self]
      simp only [go_sem, Nat.reduceEqDiff, Nat.reduceAdd, Nat.reduceLeDiff, mapOf?, toKey, cellKeys, cellKey]
      have hf := seen_find seen b
      cases g6 : seen.findIdx? (sameP b) with
      | some i =>
        rw [g6] at hf
        have hi : i < seen.length := by
          have := List.findIdx?_eq_some_iff_findIdx_eq.1 g6
          omega
        simp only [go_sem, Nat.reduceEqDiff, Bool.not_true, hf, List.getElem?_map, List.getElem?_eq_getElem hi]
        refine stop ?_
        simp only [go_sem]
        refine fail (bad ?_) rfl rfl
        have hp := (List.findIdx?_eq_some_iff_getElem.1 g6)
        obtain ⟨_, hp, _⟩ := hp
        have : seen.any (sameP b) = true := List.any_eq_true.2 ⟨_, List.getElem_mem hi, hp⟩
        rw [this]; simp
      | none =>
        rw [g6] at hf
        simp only [go_sem, Nat.reduceEqDiff, Bool.not_false, hf, zeroT, Bool.not_false]
        refine ACallL.quiet1 (ask_ok true 1) rfl rfl rfl ?_
        simp only [go_sem, Nat.reduceEqDiff, Nat.reduceAdd, Nat.reduceLeDiff, askO, if_true, toKey, cellKeys, cellKey, hf]
        have hk1 : t.bs.take (k + 1) = seen ++ [b] := by rw [List.take_succ_eq_append_getElem hk, hse, hb]
        refine ⟨_, Sub.gc [0] [54, 53, 52, 9, 2, 1] rfl rfl, ?_, ?_⟩
        · have e3 : IntKind.i64.wrap ((k : Int) + 1) = ((k + 1 : Nat) : Int) := by rw [wrap_id (by omega) (by omega)]; omega
          rw [e3, hk1, ← seen_push, List.map_append, List.length_append]; rfl
        · rw [hk1, a3]
          have : seen.any (sameP b) = false := by
            rw [List.findIdx?_eq_none_iff] at g6
            exact List.any_eq_false.2 fun x hx => by rw [g6 x hx]; simp
          simp only [okBs, hok, this, Bool.not_false, Bool.true_and]
    · rintro s ⟨rfl, a3⟩
      rw [List.drop_length] at a3
      simp only [okBs] at a3
      simp only [go_sem, Nat.reduceEqDiff]
      refine ACallL.quiet1 (ask_ok is 2) rfl rfl (by simp only [askO]; split <;> rfl) ?_
      cases is
      · simp only [go_sem, askO, Bool.false_eq_true, if_false]
        exact finL_pan [] ⟨rfl, rfl, rfl, rfl, res_mk (by rw [a3]; rfl)⟩
      · simp only [go_sem, Nat.reduceEqDiff, Nat.reduceAdd, Nat.reduceLeDiff, askO, if_true, tw3]
        exact finL_ret [] ⟨rfl, rfl, rfl, rfl, _, rfl, res_mk (by rw [a3]; rfl)⟩
end Go.Proofs.Ytcpkkjbkbdmopaa

/- The small functions of towel: words, sums, counts, how many bits. -/
namespace Go.Proofs.Ytcpkkjbkbdmopaa
open Go Go.Ab

/-! ### What is valid -/
structure Tw.OK (t : Tw) : Prop where
  nb : t.bs.length ≤ 6
  nh : t.hs.length ≤ 3
  nv : t.vs.length ≤ 3
  hs : ∀ s ∈ t.hs, 0 ≤ s.1 ∧ s.1 ≤ s.2 ∧ s.2 ≤ 24
  vs : ∀ s ∈ t.vs, 0 ≤ s.1 ∧ s.1 ≤ s.2 ∧ s.2 ≤ 24
  bs : ∀ b ∈ t.bs, 0 ≤ b.hut ∧ b.hut < t.hs.length ∧ 0 ≤ b.half ∧ b.half < t.vs.length ∧ 0 ≤ b.ll ∧ b.ll ≤ b.lh ∧ b.lh ≤ 4 ∧ 0 ≤ b.bl ∧ b.bl ≤ b.bh ∧ b.bh ≤ 4 ∧ b.bl ≤ b.lh
  ne : t.bs.Pairwise fun a b => sameP b a = false

theorem okBs_iff (t : Tw) : ∀ (bs seen : List B), okBs t seen bs = true ↔ (∀ b ∈ bs, okB t b = true) ∧ (∀ b ∈ bs, ∀ a ∈ seen, sameP b a = false) ∧ bs.Pairwise fun a b => sameP b a = false
  | [], seen => by simp [okBs]
  | b :: bs, seen => by
    simp only [okBs, Bool.and_eq_true, okBs_iff t bs, Bool.not_eq_true', List.any_eq_false, List.mem_cons, List.pairwise_cons, List.mem_append, List.not_mem_nil, or_false]
    constructor
    · rintro ⟨⟨h1, h2⟩, h3, h4, h5⟩
      refine ⟨fun x hx => ?_, fun x hx a ha => ?_, fun x hx => h4 x hx b (.inr rfl), h5⟩
      · rcases hx with rfl | hx
        · exact h1
        · exact h3 x hx
      · rcases hx with rfl | hx
        · have := h2 a ha; simpa using this
        · exact h4 x hx a (.inl ha)
    · rintro ⟨h1, h2, h3, h4⟩
      refine ⟨⟨h1 b (.inl rfl), fun a ha => by rw [h2 b (.inl rfl) a ha]; simp⟩, fun x hx => h1 x (.inr hx), fun x hx a ha => ?_, h4⟩
      rcases ha with ha | rfl
      · exact h2 x (.inr hx) a ha
      · exact h3 x hx

theorem Tw.ok_iff (t : Tw) : t.ok = true ↔ t.OK := by
  simp only [Tw.ok, Bool.and_eq_true, decide_eq_true_eq, List.all_eq_true, okS, okBs_iff, okB, wI]
  constructor
  · rintro ⟨⟨⟨⟨h1, h2, h3⟩, h4⟩, h5⟩, h6, _, h7⟩
    exact ⟨h1, h2, h3, fun s hs => by have := h4 s hs; omega, fun s hs => by have := h5 s hs; omega, fun b hb => by have := h6 b hb; omega, h7⟩
  · intro h
    exact ⟨⟨⟨⟨h.nb, h.nh, h.nv⟩, h.hs⟩, h.vs⟩, fun b hb => by have := h.bs b hb; omega, by simp, h.ne⟩

/-! ### Words -/
def words (b : B) : Int × Int := (max 0 (b.ll - b.bh), b.lh - b.bl)

theorem own_ok (t : Tw) (ht : t.OK) (o m z : Int) (k : Nat) (b : B) (hb : t.bs[k]? = some b) : ACall Try.prog 112 [.t (tBeach t o m z), .t (vi k)] [] (ret (tS (words b))) := by
  refine ACall.walk k112 ?_
  unfold c112 tBeach
  have hq := ht.bs b (List.mem_of_getElem? hb)
  have e1 : IntKind.i64.wrap (b.ll - b.bh) = b.ll - b.bh := wrap_id (by omega) (by omega)
  have e2 : IntKind.i64.wrap (b.lh - b.bl) = b.lh - b.bl := wrap_id (by omega) (by omega)
  simp only [go_sem, Nat.reduceEqDiff, Nat.reduceAdd, Nat.reduceLeDiff, List.getElem?_map, hb, tB, e1, e2]
  exact finL_ret [] ⟨rfl, rfl, rfl, rfl, _, rfl, res_mk rfl⟩

/-! ### Sums -/
def tSum (s : List Int) : T := .agg (s.map vi)
def addS (s : List Int) (b : B) (n : Int) : List Int := (s.set b.hut.toNat (s.getD b.hut.toNat 0 + n)).set (3 + b.half.toNat) (s.getD (3 + b.half.toNat) 0 + n)

theorem with_ok (s : List Int) (hs : s.length = 6) (hr : ∀ x ∈ s, 0 ≤ x ∧ x ≤ 1000) (b : B) (h1 : 0 ≤ b.hut ∧ b.hut < 3) (h2 : 0 ≤ b.half ∧ b.half < 3) (n : Int) (hn : 0 ≤ n ∧ n ≤ 1000) :
    ACall Try.prog 103 [.t (tSum s), .t (tB b), .t (vi n)] [] (ret (tSum (addS s b n))) := by
  refine ACall.walk k103 ?_
  unfold c103 tSum
  match s, hs with
  | [p0, p1, p2, p3, p4, p5], _ =>
    have hw : ∀ x ∈ [p0, p1, p2, p3, p4, p5], IntKind.i64.wrap (x + n) = x + n := fun x hx => by
      have := hr x hx
      exact wrap_id (by omega) (by omega)
    simp only [List.mem_cons, List.not_mem_nil, or_false, forall_eq_or_imp, forall_eq] at hw
    obtain ⟨w0, w1, w2, w3, w4, w5⟩ := hw
    obtain ⟨hut, half, ll, lh, bl, bh⟩ := b
    simp only at h1 h2
    obtain rfl | rfl | rfl : hut = 0 ∨ hut = 1 ∨ hut = 2 := by omega
    all_goals obtain rfl | rfl | rfl : half = 0 ∨ half = 1 ∨ half = 2 := by omega
    all_goals
      simp only [go_sem, Nat.reduceEqDiff, Nat.reduceAdd, Nat.reduceMul, Nat.reduceLeDiff, Int.reduceToNat, Int.reduceLT, Int.reduceLE, tB, w0, w1, w2, w3, w4, w5]
      exact finL_ret [] ⟨rfl, rfl, rfl, rfl, _, rfl, res_mk rfl⟩

/-! ### Counts -/
structure Cnt where
  hut : Bool
  number : Nat
  lo : Int
  hi : Int
def tC (c : Cnt) : T := .iface (if c.hut then 146 else 147) (.agg [vi c.number, vi c.lo, vi c.hi])
def Cnt.at (c : Cnt) : Nat := if c.hut then c.number else 3 + c.number
def Cnt.right (c : Cnt) (s : List Int) : Bool := wI (s.getD c.at 0) c.lo c.hi

theorem rightH_ok (c : Cnt) (hh : c.hut = true) (hn : c.number < 3) (s : List Int) (hs : s.length = 6) : ACall Try.prog 134 [.t (.agg [vi c.number, vi c.lo, vi c.hi]), .t (tSum s)] [] (ret (vb (c.right s))) := by
  refine ACall.walk k134 ?_
  unfold c134 tSum
  obtain ⟨hut, number, lo, hi⟩ := c
  simp only at hh hn
  subst hh
  match s, hs with
  | [p0, p1, p2, p3, p4, p5], _ =>
    obtain rfl | rfl | rfl : number = 0 ∨ number = 1 ∨ number = 2 := by omega
    all_goals
      simp only [go_sem, Nat.reduceEqDiff, Nat.reduceAdd, Nat.reduceMul, Nat.reduceLeDiff, Int.reduceToNat, Int.reduceLT, Int.reduceLE]
      refine ACallL.quiet1 (within_ok _ _ _) rfl rfl rfl ?_
      simp only [go_sem, Nat.reduceEqDiff, Nat.reduceAdd, Nat.reduceMul, Nat.reduceLeDiff, Int.reduceToNat, Int.reduceLT, Int.reduceLE]
      exact finL_ret [] ⟨rfl, rfl, rfl, rfl, _, rfl, res_mk rfl⟩

theorem rightV_ok (c : Cnt) (hh : c.hut = false) (hn : c.number < 3) (s : List Int) (hs : s.length = 6) : ACall Try.prog 135 [.t (.agg [vi c.number, vi c.lo, vi c.hi]), .t (tSum s)] [] (ret (vb (c.right s))) := by
  refine ACall.walk k135 ?_
  unfold c135 tSum
  obtain ⟨hut, number, lo, hi⟩ := c
  simp only at hh hn
  subst hh
  match s, hs with
  | [p0, p1, p2, p3, p4, p5], _ =>
    obtain rfl | rfl | rfl : number = 0 ∨ number = 1 ∨ number = 2 := by omega
    all_goals
      simp only [go_sem, Nat.reduceEqDiff, Nat.reduceAdd, Nat.reduceMul, Nat.reduceLeDiff, Int.reduceToNat, Int.reduceLT, Int.reduceLE]
      refine ACallL.quiet1 (within_ok _ _ _) rfl rfl rfl ?_
      simp only [go_sem, Nat.reduceEqDiff, Nat.reduceAdd, Nat.reduceMul, Nat.reduceLeDiff, Int.reduceToNat, Int.reduceLT, Int.reduceLE]
      exact finL_ret [] ⟨rfl, rfl, rfl, rfl, _, rfl, res_mk rfl⟩
end Go.Proofs.Ytcpkkjbkbdmopaa

/- Counts, sets of all, sums of lists, how many bits: the small functions that loop. -/
namespace Go.Proofs.Ytcpkkjbkbdmopaa
open Go Go.Ab

theorem every_ok (t : Tw) (ht : t.OK) (o m z : Int) : ACall Try.prog 55 [.t (tBeach t o m z)] [] (res (.ret (.tup [.t (vi ((2 ^ t.hs.length : Nat) - 1 : Int)), .t (vi ((2 ^ t.vs.length : Nat) - 1 : Int))]))) := by
  refine ACall.walk k55 ?_
  unfold c55 tBeach
  have h1 := ht.nh
  have h2 := ht.nv
  have e : ∀ n : Nat, n ≤ 3 → IntKind.i64.wrap (IntKind.i64.wrap (1 * 2 ^ (min n 64)) - 1) = ((2 ^ n : Nat) - 1 : Int) := fun n hn => by
    have : n = 0 ∨ n = 1 ∨ n = 2 ∨ n = 3 := by omega
    rcases this with rfl | rfl | rfl | rfl <;> decide
  have n1 : ¬ ((t.hs.length : Int) < 0) := by omega
  have n2 : ¬ ((t.vs.length : Int) < 0) := by omega
  simp only [go_sem, Nat.reduceEqDiff, Nat.reduceAdd, List.length_map, n1, n2, e _ h1, e _ h2]
  exact finL_ret [] ⟨rfl, rfl, rfl, rfl, _, rfl, res_mk rfl⟩

/-- Counts of a list of spans, those of a set. -/
def cntsOf (hut : Bool) (l : List (Int × Int)) (a : Nat) : List Cnt := (l.zipIdx.filter fun p => a.testBit p.2).map fun p => ⟨hut, p.2, p.1.1, p.1.2⟩
def cnts (t : Tw) (a b : Nat) : List Cnt := cntsOf true t.hs a ++ cntsOf false t.vs b

theorem cntsOf_succ (hut : Bool) (l : List (Int × Int)) (a k : Nat) (hk : k < l.length) :
    cntsOf hut (l.take (k + 1)) a = cntsOf hut (l.take k) a ++ (if a.testBit k then [⟨hut, k, l[k].1, l[k].2⟩] else []) := by
  unfold cntsOf
  have hlen : (l.take k).length = k := by simp; omega
  rw [List.take_succ_eq_append_getElem hk, List.zipIdx_append, List.filter_append, List.map_append, hlen]
  congr 1
  simp only [List.zipIdx_cons, List.zipIdx_nil, List.filter_cons, List.filter_nil, Nat.zero_add]
  cases a.testBit k <;> rfl

theorem cntsOf_len (hut : Bool) (l : List (Int × Int)) (a : Nat) : (cntsOf hut l a).length ≤ l.length := by
  unfold cntsOf
  rw [List.length_map]
  exact Nat.le_trans (List.length_filter_le _ _) (by simp)

theorem counts_ok (t : Tw) (ht : t.OK) (o m z : Int) (a b : Nat) (ha : a < 8) (hb : b < 8) : ACall Try.prog 54 [.t (tBeach t o m z), .t (vi a), .t (vi b)] [] (ret (.slice 1 ((cnts t a b).map tC))) := by
  refine ACall.walk k54 ?_
  unfold c54
  have h1 := ht.nh
  have h2 := ht.nv
  simp only [tBeach, go_sem, Nat.reduceEqDiff, Nat.reduceAdd, List.length_map]
  refine awpL_for (i := 17) (L := 16) t.hs.length (fun k s => s = { env := [(17, .t (vi k)), (16, .t (vi t.hs.length)), (15, .t (.slice 2 (t.hs.map tS))), (6, .loc 0 (cntsOf true (t.hs.take k) a).length), (0, .t (tBeach t o m z)), (1, .t (vi a)), (2, .t (vi b))], σ := [.row 1 ((cntsOf true (t.hs.take k) a).map fun c => .t (tC c))] })
    ?_ ⟨_, (Sub.ghost 6 1 (by decide) rfl).trans (Sub.gc [0] [17, 16, 15, 6, 0, 1, 2] rfl rfl), rfl⟩ ?_ ?_
  · rintro k s rfl; exact ⟨rfl, rfl⟩
  · rintro k s hk rfl
    have hn : ¬ ((k : Int) < 0) := by omega
    have hc := cntsOf_succ true t.hs a k hk
    have hlen := cntsOf_len true (t.hs.take k) a
    have hw : IntKind.i64.wrap ((k : Int) + 1) = ((k + 1 : Nat) : Int) := by rw [wrap_id (by omega) (by omega)]; omega
    simp only [go_sem, Nat.reduceEqDiff, List.getElem?_map, List.getElem?_eq_getElem hk]
    simp only [tS, go_sem, Nat.reduceEqDiff, Nat.reduceAdd, hn]
    rw [bit_eq (by omega)]
    refine BrL.mk (fun h => ?_) (fun h => ?_)
    · simp only [go_sem, Nat.reduceEqDiff, Nat.reduceAdd, Nat.reduceLT, Nat.reduceLeDiff, maxLen, List.length_map, hw]
      refine ⟨by rw [List.length_take] at hlen; omega, ?_⟩
      refine ⟨_, Sub.gc [0] [17, 16, 15, 6, 0, 1, 2] rfl rfl, ?_⟩
      rw [hc, h]
      simp only [if_true, List.length_append, List.map_append]
      exact St.gc_mk rfl (by simp only [σgc, AO.gc, List.map_cons, List.map_nil, List.getD_cons_zero, List.map_append, List.map_map, gc_t, gc_comp]; rfl) rfl rfl
    · simp only [go_sem, Nat.reduceEqDiff, hw]
      refine ⟨_, Sub.gc [0] [17, 16, 15, 6, 0, 1, 2] rfl rfl, ?_⟩
      rw [hc, h]
      simp only [Bool.false_eq_true, if_false, List.append_nil]
      exact St.gc_mk rfl (by simp only [σgc, AO.gc, List.map_cons, List.map_nil, List.getD_cons_zero, List.map_map, gc_comp]) rfl rfl
  · rintro s rfl
    rw [List.take_length]
    simp only [go_sem, Nat.reduceEqDiff, Nat.reduceAdd, List.length_map, tBeach]
    refine awpL_for (i := 41) (L := 40) t.vs.length (fun k s => s = { env := [(41, .t (vi k)), (40, .t (vi t.vs.length)), (39, .t (.slice 2 (t.vs.map tS))), (6, .loc 0 ((cntsOf true t.hs a).length + (cntsOf false (t.vs.take k) b).length)), (2, .t (vi b))], σ := [.row 1 ((cntsOf true t.hs a).map (fun c => .t (tC c)) ++ (cntsOf false (t.vs.take k) b).map fun c => .t (tC c))] })
      ?_ ⟨_, Sub.gc [0] [41, 40, 39, 6, 2] rfl rfl, St.gc_mk rfl (by simp only [σgc, AO.gc, List.map_cons, List.map_nil, List.getD_cons_zero, List.map_map, gc_comp]; simp [cntsOf]) rfl rfl⟩ ?_ ?_
    · rintro k s rfl; exact ⟨rfl, rfl⟩
    · rintro k s hk rfl
      have hn : ¬ ((k : Int) < 0) := by omega
      have hc := cntsOf_succ false t.vs b k hk
      have hlen := cntsOf_len false (t.vs.take k) b
      have hlen' := cntsOf_len true t.hs a
      have hw : IntKind.i64.wrap ((k : Int) + 1) = ((k + 1 : Nat) : Int) := by rw [wrap_id (by omega) (by omega)]; omega
      simp only [go_sem, Nat.reduceEqDiff, List.getElem?_map, List.getElem?_eq_getElem hk]
      simp only [tS, go_sem, Nat.reduceEqDiff, Nat.reduceAdd, hn]
      rw [bit_eq (by omega)]
      refine BrL.mk (fun h => ?_) (fun h => ?_)
      · simp only [go_sem, Nat.reduceEqDiff, Nat.reduceAdd, Nat.reduceLT, Nat.reduceLeDiff, maxLen, List.length_map, List.length_append, hw]
        refine ⟨by rw [List.length_take] at hlen; omega, ?_⟩
        refine ⟨_, Sub.gc [0] [41, 40, 39, 6, 2] rfl rfl, ?_⟩
        rw [hc, h]
        simp only [if_true, List.length_append, List.map_append]
        exact St.gc_mk rfl (by simp only [σgc, AO.gc, List.map_cons, List.map_nil, List.getD_cons_zero, List.map_append, List.map_map, gc_t, gc_comp, List.append_assoc]; rfl) rfl rfl
      · simp only [go_sem, Nat.reduceEqDiff, hw]
        refine ⟨_, Sub.gc [0] [41, 40, 39, 6, 2] rfl rfl, ?_⟩
        rw [hc, h]
        simp only [Bool.false_eq_true, if_false, List.append_nil]
        exact St.gc_mk rfl (by simp only [σgc, AO.gc, List.map_cons, List.map_nil, List.getD_cons_zero, List.map_append, List.map_map, gc_comp]) rfl rfl
    · rintro s rfl
      rw [List.take_length]
      simp only [go_sem, Nat.reduceEqDiff]
      refine finL_ret [] ⟨rfl, rfl, rfl, rfl, _, rfl, res_mk (congrArg Out.ret ?_)⟩
      exact gc_loc rfl (by simp [cnts, List.map_map]; rfl) (by simp [cnts])

/-! ### Lists of numbers -/
theorem upTo_ok (n : Nat) (hn : n ≤ 4096) : ACall Try.prog 70 [.t (vi n)] [] (ret (.slice 1 ((List.range n).map fun i : Nat => vi i))) := by
  refine ACall.walk k70 ?_
  unfold c70
  simp only [go_sem, Nat.reduceEqDiff]
  refine awpL_for (i := 5) (L := 4) n (fun k s => s = { env := [(5, .t (vi k)), (4, .t (vi n)), (2, .loc 0 k)], σ := [.row 1 ((List.range k).map fun i : Nat => .t (vi i))] })
    ?_ ⟨_, (Sub.ghost 2 1 (by decide) rfl).trans (Sub.gc [0] [5, 4, 2] rfl rfl), rfl⟩ ?_ ?_
  · rintro k s rfl; exact ⟨rfl, rfl⟩
  · rintro k s hk rfl
    have hw : IntKind.i64.wrap ((k : Int) + 1) = ((k + 1 : Nat) : Int) := by rw [wrap_id (by omega) (by omega)]; omega
    simp only [go_sem, Nat.reduceEqDiff, Nat.reduceLT, maxLen, List.length_map, List.length_range, hw]
    refine ⟨by omega, _, Sub.gc [0] [5, 4, 2] rfl rfl, St.gc_mk rfl (by simp only [σgc, AO.gc, List.map_cons, List.map_nil, List.getD_cons_zero, List.map_append, List.map_map, gc_t, gc_comp]) rfl rfl⟩
  · rintro s rfl
    simp only [go_sem, Nat.reduceEqDiff]
    exact finL_ret [] ⟨rfl, rfl, rfl, rfl, _, rfl, res_mk (congrArg Out.ret (gc_loc rfl (by simp [List.map_map]) (by simp)))⟩

theorem total_ok (xs : List Int) (hl : xs.length ≤ 1000) (hr : ∀ x ∈ xs, 0 ≤ x ∧ x ≤ 1000000) : ACall Try.prog 56 [.t (.slice 1 (xs.map vi))] [] (ret (vi xs.sum)) := by
  have hsum : ∀ k : Nat, k ≤ 1000 → 0 ≤ (xs.take k).sum ∧ (xs.take k).sum ≤ k * 1000000 := by
    intro k
    induction k with
    | zero => intro _; simp
    | succ k ih =>
      intro hk
      have ih := ih (by omega)
      by_cases h : k < xs.length
      · have := hr _ (List.getElem_mem h)
        rw [List.take_succ_eq_append_getElem h, List.sum_append]
        simp only [List.sum_cons, List.sum_nil]
        omega
      · rw [List.take_of_length_le (by omega)] at ih ⊢
        omega
  refine ACall.walk k56 ?_
  unfold c56
  simp only [go_sem, Nat.reduceEqDiff, List.length_map]
  refine awpL_for (i := 7) (L := 6) xs.length (fun k s => s = { env := [(7, .t (vi k)), (6, .t (vi xs.length)), (5, .t (.slice 1 (xs.map vi))), (2, .t (vi (xs.take k).sum))], σ := [] })
    ?_ ⟨_, Sub.gc [] [7, 6, 5, 2] rfl rfl, rfl⟩ ?_ ?_
  · rintro k s rfl; exact ⟨rfl, rfl⟩
  · rintro k s hk rfl
    have hw : IntKind.i64.wrap ((k : Int) + 1) = ((k + 1 : Nat) : Int) := by rw [wrap_id (by omega) (by omega)]; omega
    have h1 := hsum k (by omega)
    have h2 := hr _ (List.getElem_mem hk)
    have hs : IntKind.i64.wrap ((xs.take k).sum + xs[k]) = (xs.take (k + 1)).sum := by
      rw [wrap_id (by omega) (by omega), List.take_succ_eq_append_getElem hk, List.sum_append]
      simp
    simp only [go_sem, Nat.reduceEqDiff, List.getElem?_map, List.getElem?_eq_getElem hk, hw, hs]
    exact ⟨_, Sub.gc [] [7, 6, 5, 2] rfl rfl, rfl⟩
  · rintro s rfl
    simp only [go_sem, Nat.reduceEqDiff, List.take_length]
    exact finL_ret [] ⟨rfl, rfl, rfl, rfl, _, rfl, res_mk rfl⟩

/-! ### How many bits -/
end Go.Proofs.Ytcpkkjbkbdmopaa

/- What a bather can have kept, one number behind the other: the generator. -/
namespace Go.Proofs.Ytcpkkjbkbdmopaa
open Go Go.Ab

/-- Is a number left out? -/
def skipN (i : Nat) (o m : Int) (z : Nat) (n : Int) : Bool := ((i : Int) == o && n != m) || (z.testBit i && decide (n > 0))
def rangeI (lo hi : Int) : List Int := (List.range (hi - lo + 1).toNat).map fun j : Nat => lo + j
def canL (b : B) (i : Nat) (o m : Int) (z : Nat) : List Int := (rangeI (words b).1 (words b).2).filter fun n => !skipN i o m z n

def canF (t : Tw) (o m : Int) (z : Nat) (n : Nat) : T := .fn (.func 113) [] [.ptr (.agg [tBeach t o m z]) 0, .ptr (.agg [vi n]) 0]

theorem can_ok (t : Tw) (o m : Int) (z n : Nat) : ACall Try.prog 104 [.t (tBeach t o m z), .t (vi n)] [] (ret (canF t o m z n)) := by
  refine ACall.walk k104 ?_
  unfold c104 tBeach
  simp only [go_sem, Nat.reduceEqDiff]
  exact finL_ret [] ⟨rfl, rfl, rfl, rfl, _, rfl, res_mk rfl⟩

theorem words_bound (t : Tw) (ht : t.OK) {b : B} (hb : b ∈ t.bs) : 0 ≤ (words b).1 ∧ (words b).1 ≤ (words b).2 ∧ (words b).2 ≤ 4 := by
  have := ht.bs b hb
  unfold words
  simp only
  omega

set_option maxRecDepth 8000 in
set_option maxHeartbeats 4000000 in
theorem canGen (t : Tw) (ht : t.OK) (o m : Int) (z n : Nat) (hz : z < 64) (b : B) (hb : t.bs[n]? = some b) : AGen Try.prog 113 (([] : List T).map .t ++ .yld :: ([.ptr (.agg [tBeach t o m z]) 0, .ptr (.agg [vi n]) 0] : List T).map .t) ((canL b n o m z).map (.int .i64)) := by
  refine AGen.walk k113 ?_
  unfold c113
  have hwb := words_bound t ht (List.mem_of_getElem? hb)
  have hn : n < t.bs.length := (List.getElem?_eq_some_iff.1 hb).1
  have hlen := ht.nb
  generalize hlo : (words b).1 = lo at *
  generalize hhi : (words b).2 = hi at *
  have hown := own_ok t ht o m z n b hb
  have hown' : tS (words b) = .agg [vi lo, vi hi] := by simp only [tS, hlo, hhi]
  rw [hown'] at hown
  have hcall : ∀ {σ : List AO} {R : Lz (Out → List AO → Prop)}, R.get (.ret (.t (.agg [vi lo, vi hi]))) σ → @ACallL Try.prog 112 [.t (tBeach t o m z), .t (vi n)] σ R := fun h => ACallL.fresh1 hown rfl h
  rw [awpL_scope]
  refine awpL_cut (fun s => s = { env := [(4, .t (.fn (.func 112) [tBeach t o m z] [])), (8, .t (.fn (.func 112) [tBeach t o m z] [])), (7, .t (tBeach t o m z)), (0, .yld), (1, .t (.ptr (.agg [tBeach t o m z]) 0)), (2, .t (.ptr (.agg [vi n]) 0))], σ := [], df := [], k := 0 }) ?_ ?_
  · simp only [go_sem, Nat.reduceEqDiff, Nat.reduceAdd]
  rintro s rfl
  refine awpL_cut (fun s => s = { env := [(4, .t (.fn (.func 112) [tBeach t o m z] [])), (8, .t (.fn (.func 112) [tBeach t o m z] [])), (7, .t (tBeach t o m z)), (0, .yld), (1, .t (.ptr (.agg [tBeach t o m z]) 0)), (2, .t (.ptr (.agg [vi n]) 0))], σ := [], df := [], k := 0 }) ?_ ?_
  · simp only [go_sem]
  rintro s rfl
  refine awpL_cut (fun s => s.σ = [.cells [.t (vi lo), .t (vi hi)]] ∧ lk s.env 5 = .t (vi lo) ∧ lk s.env 6 = .ptr 0 0 ∧ lk s.env 0 = .yld ∧ lk s.env 1 = .t (.ptr (.agg [tBeach t o m z]) 0) ∧ lk s.env 2 = .t (.ptr (.agg [vi n]) 0) ∧ s.df = [] ∧ s.k = 0) ?_ ?_
  · simp only [go_sem, Nat.reduceEqDiff]
    refine AndL.mk ?_ ?_
    · simp only [go_sem, Nat.reduceEqDiff]
      refine hcall ?_
      simp only [go_sem, Nat.reduceEqDiff, Nat.reduceAdd, Nat.reduceLeDiff]
      refine AndL.mk ?_ ?_
      · simp only [go_sem, Nat.reduceEqDiff]
        refine hcall ?_
        simp only [go_sem, Nat.reduceEqDiff, Nat.reduceAdd]
      · simp only [go_sem, Nat.reduceEqDiff]
        refine hcall ?_
        simp only [go_sem, Nat.reduceEqDiff, Nat.reduceAdd]
    · simp only [go_sem, Nat.reduceEqDiff]
      refine hcall ?_
      simp only [go_sem, Nat.reduceEqDiff, Nat.reduceAdd, Nat.reduceLeDiff]
      refine hcall ?_
      simp only [go_sem, Nat.reduceEqDiff, Nat.reduceAdd]
  · rintro s ⟨h0, h1, h2, h3, h4, h5, h6, h7⟩
    have hcan : ∀ j : Nat, (j : Int) ≤ hi - lo + 1 → canL b n o m z = ((List.range j).map fun j : Nat => lo + (j : Int)).filter (fun n' => !skipN n o m z n') ++ ((List.range' j ((hi - lo + 1).toNat - j)).map fun j : Nat => lo + (j : Int)).filter (fun n' => !skipN n o m z n') := fun j hj => by
      unfold canL rangeI
      rw [hlo, hhi, ← List.filter_append, ← List.map_append]
      congr 2
      rw [List.range_eq_range', List.range_eq_range']
      have := List.range'_append_1 (s := 0) (m := j) (n := (hi - lo + 1).toNat - j)
      rw [Nat.zero_add] at this
      rw [this]
      congr 1
      omega
    simp only [go_sem]
    refine awpL_loopK (hi - lo + 1).toNat (fun j s => s = { env := [(5, .t (vi (lo + j))), (6, .ptr 0 0), (0, .yld), (1, .t (.ptr (.agg [tBeach t o m z]) 0)), (2, .t (.ptr (.agg [vi n]) 0))], σ := [.cells [.t (vi lo), .t (vi hi)]], df := [], k := (((List.range j).map fun j : Nat => lo + (j : Int)).filter fun n' => !skipN n o m z n').length })
      ⟨_, Sub.gc [0] [5, 6, 0, 1, 2] (by rw [h0]; rfl) rfl, St.gc_mk (by rw [h0]; simp only [List.map_cons, List.map_nil, h1, h2, h3, h4, h5]; simp; exact ⟨rfl, rfl, rfl, rfl, rfl⟩) (by rw [h0]; rfl) (by rw [h6]; rfl) (by rw [h7]; rfl)⟩ ?_
    rintro j s hj rfl
    simp only [go_sem, Nat.reduceEqDiff, Nat.reduceAdd]
    refine BrL.mk (fun h => ?_) (fun h => ?_)
    · have hle : lo + (j : Int) ≤ hi := by simpa using h
      have hnat : (z : Int) = ((z : Nat) : Int) := rfl
      have hn0 : ¬ ((n : Int) < 0) := by omega
      have hrange : (List.range (j + 1)).map (fun j : Nat => lo + (j : Int)) = (List.range j).map (fun j : Nat => lo + (j : Int)) ++ [lo + (j : Int)] := by rw [List.range_succ, List.map_append]; rfl
      have hw : IntKind.i64.wrap (lo + (j : Int) + 1) = lo + ((j + 1 : Nat) : Int) := by rw [wrap_id (by omega) (by omega)]; omega
      -- what is behind the test
      have hjN : j < (hi - lo + 1).toNat := by omega
      have hsk : skipN n o m z (lo + j) = (((n : Int) == o && lo + (j : Int) != m) || (z.testBit n && decide (lo + (j : Int) > 0))) := rfl
      have hlenS : skipN n o m z (lo + j) = true → (((List.range (j + 1)).map fun j : Nat => lo + (j : Int)).filter fun n' => !skipN n o m z n').length = (((List.range j).map fun j : Nat => lo + (j : Int)).filter fun n' => !skipN n o m z n').length := fun hs => by
        rw [hrange, List.filter_append]; simp [hs]
      have hlenK : skipN n o m z (lo + j) = false → (((List.range (j + 1)).map fun j : Nat => lo + (j : Int)).filter fun n' => !skipN n o m z n').length = (((List.range j).map fun j : Nat => lo + (j : Int)).filter fun n' => !skipN n o m z n').length + 1 := fun hs => by
        rw [hrange, List.filter_append]; simp [hs]
      have hyld : skipN n o m z (lo + j) = false → ((canL b n o m z).map (Value.int .i64))[(((List.range j).map fun j : Nat => lo + (j : Int)).filter fun n' => !skipN n o m z n').length]? = some (.int .i64 (lo + j)) := fun hs => by
        rw [hcan (j + 1) (by omega), hrange, List.filter_append]
        simp [hs]
      rw [List.range_succ] at hlenS hlenK
      generalize (((List.range j).map fun j : Nat => lo + (j : Int)).filter fun n' => !skipN n o m z n').length = kk at *
      generalize hS : skipN n o m z (lo + j) = S at *
      cases hA : ((n : Int) == o) <;> cases hB : (lo + (j : Int) != m) <;> cases hC : z.testBit n <;> cases hG : decide (lo + (j : Int) > 0) <;> rw [hA, hB, hC, hG] at hsk <;> simp only [Bool.and_true, Bool.and_false, Bool.or_true, Bool.or_false] at hsk <;> subst hsk
      all_goals simp only [tBeach, go_sem, Nat.reduceEqDiff, Nat.reduceAdd, Bool.not_true, Bool.not_false, h, hn0, undef, hA, hB, hC, hG, bit_eq (show z < 9223372036854775808 by omega), hw]
      all_goals first
        | (refine ⟨hyld rfl, hjN, _, Sub.gc [1] [5, 6, 0, 1, 2] rfl rfl, ?_⟩; exact St.gc_mk rfl rfl rfl (hlenK rfl).symm)
        | (refine ⟨hjN, _, Sub.gc [1] [5, 6, 0, 1, 2] rfl rfl, ?_⟩; exact St.gc_mk rfl rfl rfl (hlenS rfl).symm)
    · have hgt : hi < lo + (j : Int) := by simpa using h
      simp only [go_sem, h]
      refine finL_ret [] ⟨rfl, ?_, rfl, rfl, _, rfl, _, rfl⟩
      rw [List.length_map, hcan j (by omega)]
      have : (hi - lo + 1).toNat - j = 0 := by omega
      rw [this]
      simp
end Go.Proofs.Ytcpkkjbkbdmopaa

/- The sums that there can be, by some counts: plain laws. -/
namespace Go.Proofs.Ytcpkkjbkbdmopaa
open Go Go.Ab

abbrev sh6 : Sh := (some [some .i64, some .i64, some .i64, some .i64, some .i64, some .i64], none)

/-- What the first bathers can have kept. -/
def tupsK (t : Tw) (o m : Int) (z : Nat) : Nat → List (List Int)
  | 0 => [[]]
  | k + 1 => (tupsK t o m z k).flatMap fun l => match t.bs[k]? with
    | some b => (canL b k o m z).map fun n => l ++ [n]
    | none => []
def zero6 : List Int := [0, 0, 0, 0, 0, 0]
def sumT (bs : List B) (l : List Int) : List Int := (bs.zip l).foldl (fun s p => addS s p.1 p.2) zero6
/-- All that is so, by some counts. -/
def truthsC (t : Tw) (o m : Int) (z : Nat) (cs : List Cnt) : List (List Int) := (tupsK t o m z t.bs.length).filter fun l => cs.all fun c => c.right (sumT t.bs l)

theorem sum_flatMap {α β : Type} (g : α → List β) (f : β → Int) : ∀ l : List α, ((l.flatMap g).map f).sum = (l.map fun a => ((g a).map f).sum).sum
  | [] => rfl
  | a :: l => by simp only [List.flatMap_cons, List.map_append, List.sum_append, List.map_cons, List.sum_cons, sum_flatMap g f l]

theorem addS_len {s : List Int} {b : B} {n : Int} : (addS s b n).length = s.length := by simp [addS]

theorem addS_mem {s : List Int} (hs : s.length = 6) {b : B} {n lo hi : Int} (h0 : lo ≤ 0) (hn : 0 ≤ n ∧ n ≤ 4) (hhi : 0 ≤ hi) (hr : ∀ x ∈ s, lo ≤ x ∧ x ≤ hi) : ∀ x ∈ addS s b n, lo ≤ x ∧ x ≤ hi + 4 := by
  have hg : ∀ i : Nat, lo ≤ s.getD i 0 ∧ s.getD i 0 ≤ hi := fun i => by
    rw [List.getD_eq_getElem?_getD]
    cases h : s[i]? with
    | none => simp; omega
    | some x => exact hr x (List.mem_of_getElem? h)
  intro x hx
  unfold addS at hx
  rcases List.mem_or_eq_of_mem_set hx with hx | rfl
  · rcases List.mem_or_eq_of_mem_set hx with hx | rfl
    · have := hr x hx; omega
    · have := hg b.hut.toNat; omega
  · have := hg (3 + b.half.toNat); omega

theorem canL_mem {t : Tw} (ht : t.OK) {b : B} (hb : b ∈ t.bs) {i : Nat} {o m : Int} {z : Nat} {n : Int} (h : n ∈ canL b i o m z) : 0 ≤ n ∧ n ≤ 4 := by
  have hw := words_bound t ht hb
  unfold canL rangeI at h
  obtain ⟨h1, _⟩ := List.mem_filter.1 h
  obtain ⟨j, hj, rfl⟩ := List.mem_map.1 h1
  have := List.mem_range.1 hj
  omega

theorem canL_len {t : Tw} (ht : t.OK) {b : B} (hb : b ∈ t.bs) {i : Nat} {o m : Int} {z : Nat} : (canL b i o m z).length ≤ 5 := by
  have hw := words_bound t ht hb
  unfold canL rangeI
  refine Nat.le_trans (List.length_filter_le _ _) ?_
  rw [List.length_map, List.length_range]
  omega

theorem tupsK_succ {t : Tw} {o m : Int} {z k : Nat} {b : B} (hb : t.bs[k]? = some b) : tupsK t o m z (k + 1) = (tupsK t o m z k).flatMap fun l => (canL b k o m z).map fun n => l ++ [n] := by
  rw [tupsK, hb]

theorem tupsK_len {t : Tw} {o m : Int} {z : Nat} : ∀ {k : Nat}, k ≤ t.bs.length → ∀ l ∈ tupsK t o m z k, l.length = k
  | 0, _, l, h => by simp [tupsK] at h; subst h; rfl
  | k + 1, hk, l, h => by
    rw [tupsK_succ (List.getElem?_eq_getElem (by omega))] at h
    obtain ⟨l', h1, h2⟩ := List.mem_flatMap.1 h
    obtain ⟨n, _, rfl⟩ := List.mem_map.1 h2
    rw [List.length_append, tupsK_len (by omega) l' h1]
    rfl

theorem tupsK_many {t : Tw} (ht : t.OK) {o m : Int} {z : Nat} : ∀ {k : Nat}, k ≤ t.bs.length → (tupsK t o m z k).length ≤ 5 ^ k
  | 0, _ => by simp [tupsK]
  | k + 1, hk => by
    have hb : t.bs[k]? = some t.bs[k] := List.getElem?_eq_getElem (by omega)
    rw [tupsK_succ hb, List.length_flatMap]
    have ih := tupsK_many ht (o := o) (m := m) (z := z) (k := k) (by omega)
    have hc := canL_len ht (List.mem_of_getElem? hb) (i := k) (o := o) (m := m) (z := z)
    have : ∀ L : List (List Int), (L.map fun l => ((canL t.bs[k] k o m z).map fun n => l ++ [n]).length).sum ≤ L.length * 5 := by
      intro L
      induction L with
      | nil => simp
      | cons x L ih => simp only [List.map_cons, List.sum_cons, List.length_map, List.length_cons] at ih ⊢; omega
    have h2 := this (tupsK t o m z k)
    rw [Nat.pow_succ]
    omega

theorem sumT_snoc {bs : List B} {l : List Int} {b : B} {n : Int} (hb : bs[l.length]? = some b) : sumT bs (l ++ [n]) = addS (sumT bs l) b n := by
  unfold sumT
  have : bs.zip (l ++ [n]) = bs.zip l ++ [(b, n)] := by
    have hlt := (List.getElem?_eq_some_iff.1 hb).1
    have e : bs = bs.take l.length ++ bs.drop l.length := (List.take_append_drop _ _).symm
    have hd : bs.drop l.length = b :: bs.drop (l.length + 1) := by
      rw [List.drop_eq_getElem_cons hlt]
      congr 1
      exact (List.getElem?_eq_some_iff.1 hb).2
    have h1 : bs.zip (l ++ [n]) = (bs.take l.length).zip l ++ (bs.drop l.length).zip [n] := by
      conv => lhs; rw [e]
      rw [List.zip_append (by simp; omega)]
    have h2 : bs.zip l = (bs.take l.length).zip l := by
      conv => lhs; rw [e]
      have := List.zip_append (l₁ := bs.take l.length) (r₁ := bs.drop l.length) (l₂ := l) (r₂ := []) (by simp; omega)
      simpa using this
    rw [h1, h2, hd, List.zip_cons_cons, List.zip_nil_right]
  rw [this, List.foldl_append]
  rfl

/-- What the map tells behind so many bathers. -/
structure FrontOK (t : Tw) (o m : Int) (z k : Nat) (mm : List ME) (clk : Nat) : Prop where
  wf : MWF sh6 mm clk
  pos : MPos mm
  bd : ∀ e ∈ mm, ∀ x ∈ e.2.1, 0 ≤ x ∧ x ≤ 4 * (k : Int)
  sum : ∀ f : List Int → Int, wsum f mm = ((tupsK t o m z k).map fun l => f (sumT t.bs l)).sum

theorem FrontOK.zero (t : Tw) (o m : Int) (z : Nat) : FrontOK t o m z 0 [(0, zero6, vi 1)] 1 := by
  refine ⟨⟨rfl, by simp [zero6, shKinds], by simp, by simp, by simp⟩, fun e he => ?_, fun e he => ?_, fun f => ?_⟩
  · simp at he; subst he; exact ⟨rfl, by decide⟩
  · simp at he; subst he; simp [zero6]
  · simp [wsum, tupsK, sumT, iv]

/-- What the next map tells, of some of the entries. -/
structure NextOK (t : Tw) (o m : Int) (z k : Nat) (b : B) (vis : List ME) (e : ME) (ns : List Int) (nx : List ME) (clk : Nat) : Prop where
  wf : MWF sh6 nx clk
  pos : MPos nx
  bd : ∀ e ∈ nx, ∀ x ∈ e.2.1, 0 ≤ x ∧ x ≤ 4 * ((k + 1 : Nat) : Int)
  sum : ∀ f : List Int → Int, wsum f nx = wsum (fun s => ((canL b k o m z).map fun n => f (addS s b n)).sum) vis + iv e.2.2 * (ns.map fun n => f (addS e.2.1 b n)).sum

theorem NextOK.start {t : Tw} {o m : Int} {z k : Nat} {b : B} : NextOK t o m z k b [] (0, [], vi 0) [] [] 0 :=
  ⟨MWF.nil rfl, fun e he => by simp at he, fun e he => by simp at he, fun f => by simp [wsum]⟩

theorem NextOK.next {t : Tw} {o m : Int} {z k : Nat} {b : B} {vis : List ME} {e e' : ME} {nx : List ME} {clk : Nat} (h : NextOK t o m z k b vis e (canL b k o m z) nx clk) : NextOK t o m z k b (vis ++ [e]) e' [] nx clk :=
  ⟨h.wf, h.pos, h.bd, fun f => by rw [h.sum f, wsum_append]; simp [wsum]⟩

theorem NextOK.any {t : Tw} {o m : Int} {z k : Nat} {b : B} {vis : List ME} {e e' : ME} {nx : List ME} {clk : Nat} (h : NextOK t o m z k b vis e [] nx clk) : NextOK t o m z k b vis e' [] nx clk :=
  ⟨h.wf, h.pos, h.bd, fun f => by rw [h.sum f]; simp⟩

theorem NextOK.add {t : Tw} {o m : Int} {z k : Nat} {b : B} {vis : List ME} {e : ME} {ns : List Int} {nx : List ME} {clk : Nat} {n : Int} (h : NextOK t o m z k b vis e ns nx clk) (hl : e.2.1.length = 6) (hn : 0 ≤ n ∧ n ≤ 4) (he : 0 < iv e.2.2)
    (hb : ∀ x ∈ e.2.1, 0 ≤ x ∧ x ≤ 4 * (k : Int)) : NextOK t o m z k b vis e (ns ++ [n]) (mupd nx clk (addS e.2.1 b n) (vi (geti nx (addS e.2.1 b n) + iv e.2.2))) (mclk nx clk (addS e.2.1 b n)) := by
  refine ⟨mupd_wf h.wf (by rw [addS_len, hl]; rfl) _, h.pos.upd he, fun x hx y hy => ?_, fun f => ?_⟩
  · rcases mem_mupd hx with hx | ⟨hx, _⟩
    · exact h.bd x hx y hy
    · rw [hx] at hy
      have := addS_mem hl (lo := 0) (hi := 4 * (k : Int)) (by omega) hn (by omega) hb y hy
      omega
  · rw [wsum_upd, h.sum f]
    simp only [List.map_append, List.sum_append, List.map_cons, List.map_nil, List.sum_cons, List.sum_nil, Int.mul_add, Int.add_zero]
    omega

/-- All entries have come up. -/
theorem NextOK.front {t : Tw} {o m : Int} {z k : Nat} {b : B} {vis : List ME} {e : ME} {nx mm : List ME} {clk clk' : Nat} (hb : t.bs[k]? = some b) (h : NextOK t o m z k b vis e [] nx clk) (hp : vis.Perm mm) (hf : FrontOK t o m z k mm clk') : FrontOK t o m z (k + 1) nx clk := by
  refine ⟨h.wf, h.pos, h.bd, fun f => ?_⟩
  rw [h.sum f, wsum_perm hp, hf.sum, tupsK_succ hb, sum_flatMap]
  simp only [List.map_nil, List.sum_nil, Int.mul_zero, Int.add_zero, List.map_map]
  congr 1
  refine List.map_congr_left fun l hl => ?_
  congr 1
  refine List.map_congr_left fun n _ => ?_
  have hlen := tupsK_len (Nat.le_of_lt (List.getElem?_eq_some_iff.1 hb).1) l hl
  simp only [Function.comp_apply]
  rw [sumT_snoc (by rw [hlen]; exact hb)]

/-- No number is too great. -/
theorem NextOK.small {t : Tw} (ht : t.OK) {o m : Int} {z k : Nat} {b : B} {vis : List ME} {e : ME} {nx mm : List ME} {clk clk' j : Nat} (hb : t.bs[k]? = some b) (h : NextOK t o m z k b vis e ((canL b k o m z).take j) nx clk) (hf : FrontOK t o m z k mm clk') (hvn : vis.Nodup) (he : e ∈ mm) (hev : e ∉ vis) (hvs : ∀ v ∈ vis, v ∈ mm)
    (key : List Int) : geti nx key ≤ 15625 ∧ iv e.2.2 ≤ 15625 := by
  have hk := (List.getElem?_eq_some_iff.1 hb).1
  have h5 : 5 ^ k ≤ 5 ^ 5 := Nat.pow_le_pow_right (by omega) (by have := ht.nb; omega)
  have hm := tupsK_many ht (o := o) (m := m) (z := z) (k := k) (by omega)
  have hall : wsum (fun _ => 1) mm ≤ 3125 := by
    rw [hf.sum]
    have : ∀ L : List (List Int), (L.map fun _ => (1 : Int)).sum = L.length := by
      intro L
      induction L with
      | nil => rfl
      | cons x L ih => simp only [List.map_cons, List.sum_cons, ih, List.length_cons]; omega
    rw [this]
    have : (5 : Nat) ^ 5 = 3125 := by decide
    omega
  have hone := hf.pos.one he
  refine ⟨?_, by omega⟩
  have hn' : (vis ++ [e]).Nodup := by
    rw [List.nodup_append]
    exact ⟨hvn, by simp, fun a ha b hb => by simp at hb; rw [hb]; exact fun h => hev (h ▸ ha)⟩
  have : ∃ r, (vis ++ [e] ++ r).Perm mm := by
    classical
    exact perm_rest hn' fun x hx => by
      rcases List.mem_append.1 hx with hx | hx
      · exact hvs x hx
      · simp at hx; rw [hx]; exact he
  obtain ⟨r, hr⟩ := this
  have hsum : wsum (fun _ => 1) vis + iv e.2.2 + wsum (fun _ => 1) r = wsum (fun _ => 1) mm := by
    rw [← wsum_perm hr, wsum_append, wsum_append]; simp [wsum]
  have hrp : 0 ≤ wsum (fun _ => 1) r := MPos.le (fun x hx => hf.pos x (hr.subset (by simp [hx]))) fun _ => by omega
  have hc := canL_len ht (List.mem_of_getElem? hb) (i := k) (o := o) (m := m) (z := z)
  have hnx : wsum (fun _ => 1) nx ≤ 15625 := by
    rw [h.sum]
    have h1 : ∀ L : List Int, (L.map fun _ => (1 : Int)).sum = L.length := by
      intro L
      induction L with
      | nil => rfl
      | cons x L ih => simp only [List.map_cons, List.sum_cons, ih, List.length_cons]; omega
    have h2 : wsum (fun _ => ((canL b k o m z).map fun _ => (1 : Int)).sum) vis = (canL b k o m z).length * wsum (fun _ => 1) vis := by
      rw [h1]
      clear hsum hr hn' hvn hev hvs h
      induction vis with
      | nil => simp [wsum]
      | cons x vis ih => rw [wsum_cons, wsum_cons, ih, Int.mul_add, Int.mul_one, Int.mul_comm]
    rw [h2, h1]
    have h3 : (((canL b k o m z).take j).length : Int) ≤ 5 := by
      rw [List.length_take]; omega
    have hv : 0 ≤ wsum (fun _ => 1) vis := MPos.le (fun x hx => hf.pos x (hvs x hx)) fun _ => by omega
    have hep := (hf.pos e he).2
    have h4 : ((canL b k o m z).length : Int) * wsum (fun _ => 1) vis ≤ 5 * wsum (fun _ => 1) vis := Int.mul_le_mul_of_nonneg_right (by omega) hv
    have h6 : iv e.2.2 * (((canL b k o m z).take j).length : Int) ≤ iv e.2.2 * 5 := Int.mul_le_mul_of_nonneg_left h3 (by omega)
    omega
  rcases h.pos.get key with h1 | ⟨h1, _⟩
  · have : geti nx key = 0 := by unfold geti; rw [h1]; rfl
    omega
  · unfold mget at h1
    obtain ⟨e', he', h2⟩ := Option.map_eq_some_iff.1 h1
    have := h.pos.one (List.mem_of_find?_eq_some he')
    rw [h2] at this
    simp only [iv] at this
    omega

/-- What is told of what can be: each sum as often as there are truths with it. -/
structure EndsOK (t : Tw) (o m : Int) (z : Nat) (cs : List Cnt) (mm : List ME) (clk : Nat) : Prop where
  wf : MWF sh6 mm clk
  pos : MPos mm
  bd : ∀ e ∈ mm, ∀ x ∈ e.2.1, 0 ≤ x ∧ x ≤ 24
  sum : ∀ f : List Int → Int, wsum f mm = ((truthsC t o m z cs).map fun l => f (sumT t.bs l)).sum

theorem FrontOK.ends {t : Tw} (ht : t.OK) {o m : Int} {z : Nat} {cs : List Cnt} {mm : List ME} {clk : Nat} (h : FrontOK t o m z t.bs.length mm clk) : EndsOK t o m z cs (mm.filter fun e => cs.all fun c => c.right e.2.1) clk := by
  refine ⟨h.wf.sub List.filter_sublist, fun e he => h.pos e (List.mem_filter.1 he).1, fun e he x hx => ?_, fun f => ?_⟩
  · have := h.bd e (List.mem_filter.1 he).1 x hx
    have := ht.nb
    omega
  · rw [wsum_filter (p := fun s => cs.all fun c => c.right s), h.sum]
    unfold truthsC
    generalize tupsK t o m z t.bs.length = L
    induction L with
    | nil => rfl
    | cons l L ih =>
      rw [List.filter_cons]
      simp only [List.map_cons, List.sum_cons]
      rw [ih]
      split
      · rw [List.map_cons, List.sum_cons]
      · omega
end Go.Proofs.Ytcpkkjbkbdmopaa

/- The sums that there can be, by some counts: the walk. -/
namespace Go.Proofs.Ytcpkkjbkbdmopaa
open Go Go.Ab

theorem vi_iv {m : List ME} (h : MPos m) {e : ME} (he : e ∈ m) : e.2.2 = vi (iv e.2.2) := (h e he).1

theorem len6 {s : List Int} (h : s.length = 6) : ∃ a b c d e f, s = [a, b, c, d, e, f] := by
  match s, h with
  | [a, b, c, d, e, f], _ => exact ⟨a, b, c, d, e, f, rfl⟩

theorem toKey6 {s : List Int} (h : s.length = 6) : toKey sh6 (.t (tSum s)) = some s := by
  obtain ⟨a, b, c, d, e, f, rfl⟩ := len6 h
  rfl

theorem keyT6 {s : List Int} (h : s.length = 6) : keyT sh6 s = tSum s := by
  obtain ⟨a, b, c, d, e, f, rfl⟩ := len6 h
  rfl

set_option maxRecDepth 4000 in
set_option maxHeartbeats 2000000 in
theorem ends_ok (t : Tw) (ht : t.OK) (o m : Int) (z : Nat) (hz : z < 64) (cs : List Cnt) (hcs : ∀ c ∈ cs, c.number < 3) (hcl : cs.length ≤ 6) :
    ACall Try.prog 53 [.t (tBeach t o m z), .t (.slice 1 (cs.map tC))] [] fun out σ => σ = [] ∧ ∃ mm clk, out = .ret (.t (.map sh6 (mks mm) (mvs mm) clk)) ∧ EndsOK t o m z cs mm clk := by
  refine ACall.walk k53 ?_
  unfold c53
  have hbs := ht.nb
  simp only [tBeach, go_sem, Nat.reduceEqDiff, List.length_map, toKey, cellKeys, cellKey, kfind, List.findIdx?_nil]
  refine awpL_for (i := 25) (L := 24) t.bs.length (fun k s => ∃ mm clk d, FrontOK t o m z k mm clk ∧ s = { env := [(25, .t (vi k)), (24, .t (vi t.bs.length)), (23, .t (.slice 6 (t.bs.map tB))), (5, .map 0), (6, .t (.ptr (.agg [.fn (.func 103) [] []]) 0)), (0, .t (tBeach t o m z)), (1, .t (.slice 1 (cs.map tC)))], σ := [.map sh6 (mks mm) (mvs mm) clk], df := List.replicate d .mark, k := 0 })
    ?_ ⟨_, Sub.gc [0] [25, 24, 23, 5, 6, 0, 1] rfl rfl, _, _, 0, FrontOK.zero t o m z, rfl⟩ ?_ ?_
  · rintro k s ⟨mm, clk, d, _, rfl⟩; exact ⟨rfl, rfl⟩
  · rintro k s hk ⟨mm, c, d, hF, rfl⟩
    have hb : t.bs[k]? = some t.bs[k] := List.getElem?_eq_getElem hk
    have hbm := List.mem_of_getElem? hb
    generalize t.bs[k] = b at *
    simp only [go_sem, Nat.reduceEqDiff, List.getElem?_map, hb]
    simp only [tB, go_sem, Nat.reduceEqDiff, Nat.reduceAdd, mapOf?]
    refine awpL_mapRange mm hF.wf.nb 1 c (.t (.map sh6 (mks mm) (mvs mm) c)) sh6 (fun vis s => ∃ nx clk d, NextOK t o m z k b vis (0, [], vi 0) [] nx clk ∧ s = { env := [(32, .iter 1), (25, .t (vi k)), (24, .t (vi t.bs.length)), (23, .t (.slice 6 (t.bs.map tB))), (9, .ptr 2 0), (8, .t (.ptr (tB b) 0)), (7, .t (vi k)), (6, .t (.ptr (.agg [.fn (.func 103) [] []]) 0)), (0, .t (tBeach t o m z)), (1, .t (.slice 1 (cs.map tC)))], σ := [.map sh6 (mks nx) (mvs nx) clk, .iter (.t (.map sh6 (mks mm) (mvs mm) c)) c (vis.map (·.1)) c, .cells [.map 0]], df := List.replicate d .mark, k := 0 })
      ?_ ⟨_, Sub.gc [2, 4, 3] [32, 25, 24, 23, 9, 8, 7, 6, 0, 1] rfl rfl, [], 0, d, NextOK.start, St.gc_mk rfl rfl (by simp [Df.gc]) rfl⟩ ?_ ?_
    · rintro vis s ⟨nx, clk, d, _, rfl⟩
      exact ⟨rfl, rfl, mm, rfl, hF.wf.lt, rfl⟩
    · rintro vis e s he hev hvs hvn ⟨nx, clk, d, hN, rfl⟩
      obtain ⟨born, key, val⟩ := e
      have hlen := hF.wf.lens _ he
      have hval := vi_iv hF.pos he
      have hpos := (hF.pos _ he).2
      have hbd := hF.bd _ he
      have hfind := ent_find hF.wf.nb he
      have hnd := mks_nodup hF.wf.nb
      simp only at hlen hval hpos hbd hfind hev
      generalize hv : iv val = v at *
      subst hval
      obtain ⟨p0, p1, p2, p3, p4, p5, rfl⟩ := len6 hlen
      have hkey : keyT sh6 [p0, p1, p2, p3, p4, p5] = .agg [vi p0, vi p1, vi p2, vi p3, vi p4, vi p5] := rfl
      simp only [go_sem, Nat.reduceEqDiff, Nat.reduceAdd, mapOf?, List.getLast?_concat, hnd, hfind, hkey]
      refine ACallL.fresh1 (can_ok t o m z k) rfl ?_
      simp only [go_sem]
      refine awpL_rangeF2 (f := 113) (fs := []) (cs := [.ptr (.agg [tBeach t o m z]) 0, .ptr (.agg [vi k]) 0]) ((canL b k o m z).map (.int .i64)) (fun j σ => ∃ nx clk, NextOK t o m z k b vis (born, [p0, p1, p2, p3, p4, p5], vi v) ((canL b k o m z).take j) nx clk ∧
          σ = [.map sh6 (mks nx) (mvs nx) clk, .iter (.t (.map sh6 (mks mm) (mvs mm) c)) c (vis.map (·.1) ++ [born]) c, .cells [.map 0]])
        [0, 1, 2] [32, 25, 24, 23, 9, 8, 7, 6, 0, 1, 10, 11] [(32, .iter 1), (25, .t (vi k)), (24, .t (vi t.bs.length)), (23, .t (.slice 6 (t.bs.map tB))), (9, .ptr 2 0), (8, .t (.ptr (tB b) 0)), (7, .t (vi k)), (6, .t (.ptr (.agg [.fn (.func 103) [] []]) 0)), (0, .t (tBeach t o m z)), (1, .t (.slice 1 (cs.map tC))), (10, .t (.ptr (.agg [vi p0, vi p1, vi p2, vi p3, vi p4, vi p5]) 0)), (11, .t (.ptr (.agg [vi v]) 0))] (List.replicate d .mark) rfl (by simp [St.gc, Df.gc]) rfl rfl (canGen t ht o m z k hz b hb) rfl rfl ⟨nx, clk, hN.any, rfl⟩ ?_ ?_
      · rintro l j w σ hj ⟨nx, clk, hN, rfl⟩
        rw [List.getElem?_map] at hj
        obtain ⟨n, hjn, rfl⟩ := Option.map_eq_some_iff.1 hj
        have hn := canL_mem ht hbm (List.mem_of_getElem? hjn)
        simp only [go_sem, Nat.reduceEqDiff, Nat.reduceAdd, tB]
        refine ACallL.fresh1 (with_ok [p0, p1, p2, p3, p4, p5] rfl (fun x hx => by have := hbd x hx; omega) b (by have := ht.bs b hbm; have := ht.nh; omega) (by have := ht.bs b hbm; have := ht.nv; omega) n (by omega)) rfl ?_
        have hk6 : (addS [p0, p1, p2, p3, p4, p5] b n).length = 6 := by rw [addS_len]; rfl
        have hadd := hN.add (n := n) rfl hn hpos hbd
        simp only [go_sem, Nat.reduceEqDiff, mapOf?, toKey6 hk6]
        obtain ⟨hsm1, hsm2⟩ := hN.small ht hb hF (nodup_of_map (·.1) hvn) he (fun h => hev (List.mem_map_of_mem (f := (·.1)) h)) hvs (addS [p0, p1, p2, p3, p4, p5] b n)
        have hwf := hN.wf
        have hgp := hN.pos.get (addS [p0, p1, p2, p3, p4, p5] b n)
        have htk : (canL b k o m z).take (j + 1) = (canL b k o m z).take j ++ [n] := by
          obtain ⟨hlt, e⟩ := List.getElem?_eq_some_iff.1 hjn
          rw [List.take_succ_eq_append_getElem hlt, e]
        simp only [hv] at hadd hsm2
        generalize hkk : addS [p0, p1, p2, p3, p4, p5] b n = kk at *
        rw [kfind_int hwf.ints hk6 hwf.lens]
        cases hf : nx.findIdx? fun e => decide (kk = e.2.1) with
        | none =>
          have hw : IntKind.i64.wrap (0 + v) = geti nx kk + v := by rw [geti_none hf, wrap_id (by omega) (by omega)]
          obtain ⟨u1, u2, u3⟩ := mupd_none (clk := clk) (v := vi (geti nx kk + v)) hf
          rw [u3] at hadd
          simp only [go_sem, Nat.reduceEqDiff, Nat.reduceAdd, mapOf?, toKey6 hk6, zeroT, hw, kfind_int hwf.ints hk6 hwf.lens, hf, kfind_new hwf hk6 hf, bfind_new hwf, List.getElem?_append_right, mvs_length, Nat.sub_self]
          refine ⟨[0, 1, 2], rfl, rfl, _, _, by rw [htk]; exact hadd, ?_⟩
          rw [u1, u2]
          have hsl : (mvs nx ++ [T.lit (Value.int IntKind.i64 0)]).set nx.length (T.lit (Value.int IntKind.i64 (geti nx kk + v))) = mvs nx ++ [vi (geti nx kk + v)] := by rw [← mvs_length, set_last]
          rw [hsl]
          rfl
        | some i =>
          have hi : i < nx.length := (List.findIdx?_eq_some_iff_getElem.1 hf).1
          have hei : nx[i]? = some nx[i] := List.getElem?_eq_getElem hi
          have hgs := geti_some hf hei
          have hxv := (hN.pos _ (List.mem_of_getElem? hei)).1
          generalize nx[i] = x at *
          have hw : IntKind.i64.wrap (geti nx kk + v) = geti nx kk + v := wrap_id (by have := hN.pos _ (List.mem_of_getElem? hei); omega) (by omega)
          obtain ⟨u1, u2, u3⟩ := mupd_some (clk := clk) (v := vi (geti nx kk + v)) hf
          rw [u3] at hadd
          rw [← hgs] at hxv
          simp only [go_sem, Nat.reduceEqDiff, Nat.reduceAdd, mapOf?, toKey6 hk6, kfind_int hwf.ints hk6 hwf.lens, hf, mvs_get, mks_get, hei, hxv, hw, bfind_old hwf hei]
          refine ⟨[0, 1, 2], rfl, rfl, _, _, by rw [htk]; exact hadd, ?_⟩
          rw [u1, u2]
          rfl
      · rintro σ ⟨nx, clk, hN, rfl⟩
        simp only [go_sem]
        rw [List.length_map, List.take_length] at hN
        exact ⟨_, Sub.gc [0, 1, 2] [32, 25, 24, 23, 9, 8, 7, 6, 0, 1] rfl rfl, nx, clk, d + 1, hN.next, St.gc_mk rfl (by simp [σgc, AO.gc, E.gc]; rfl) (by simp [Df.gc, List.replicate_succ]) rfl⟩
    · rintro vis s hp ⟨nx, clk, d, hN, rfl⟩
      have hw : IntKind.i64.wrap ((k : Int) + 1) = ((k + 1 : Nat) : Int) := by rw [wrap_id (by omega) (by omega)]; omega
      simp only [go_sem, Nat.reduceEqDiff, Nat.reduceAdd, hw]
      exact ⟨_, Sub.gc [0] [25, 24, 23, 5, 6, 0, 1] rfl rfl, nx, clk, d, hN.front hb hp hF, St.gc_mk rfl rfl (by simp [Df.gc]) rfl⟩
  · rintro s ⟨mm, clk, d, hF, rfl⟩
    simp only [go_sem, Nat.reduceEqDiff, mapOf?]
    let wrong : List ME → ME → Bool := fun vis e => (vis.map (·.1)).contains e.1 && !(cs.all fun x => x.right e.2.1)
    have hnil : (mm.filter fun e => !wrong [] e) = mm := List.filter_eq_self.2 fun _ _ => rfl
    refine awpL_mapRange mm hF.wf.nb 1 clk (.map 0) sh6 (fun vis s => s = { env := [(56, .iter 1), (5, .map 0), (1, .t (.slice 1 (cs.map tC)))], σ := [.map sh6 (mks (mm.filter fun e => !wrong vis e)) (mvs (mm.filter fun e => !wrong vis e)) clk, .iter (.map 0) clk (vis.map (·.1)) clk], df := List.replicate d .mark, k := 0 })
      ?_ ⟨_, Sub.gc [0, 1] [56, 5, 1] rfl rfl, St.gc_mk rfl (by rw [hnil]; rfl) (by simp [Df.gc]) rfl⟩ ?_ ?_
    · rintro vis s rfl
      refine ⟨rfl, rfl, _, rfl, fun e he => hF.wf.lt e (List.mem_filter.1 he).1, ?_⟩
      rw [List.filter_filter]
      refine List.filter_congr fun e _ => ?_
      simp only [wrong]
      cases (vis.map (·.1)).contains e.1 <;> simp
    · rintro vis e s he hev hvs hvn rfl
      obtain ⟨born, key, val⟩ := e
      have hlen := hF.wf.lens _ he
      have hcur : (born, key, val) ∈ mm.filter fun e => !wrong vis e := List.mem_filter.2 ⟨he, by
        have : (vis.map (·.1)).contains born = false := by simpa using hev
        simp only [wrong, this]; rfl⟩
      have hwf := hF.wf.sub (m' := mm.filter fun e => !wrong vis e) List.filter_sublist
      have hfind := ent_find hwf.nb hcur
      have hnd := mks_nodup hwf.nb
      simp only at hlen hev hfind
      have hkey := keyT6 hlen
      have hdel := mdel_res hwf (key := key) hlen hcur rfl
      -- behind this entry
      have hnext : ∀ e' ∈ mm, (!wrong (vis ++ [(born, key, val)]) e') = (if e'.1 = born then (cs.all fun x => x.right key) else !wrong vis e') := fun e' he' => by
        by_cases hb : e'.1 = born
        · have : e' = (born, key, val) := by
            obtain ⟨i, hi⟩ := List.getElem?_of_mem he'
            obtain ⟨j, hj⟩ := List.getElem?_of_mem he
            have hi' : (mm.map (·.1))[i]? = some born := by rw [List.getElem?_map, hi]; simp [hb]
            have hj' : (mm.map (·.1))[j]? = some born := by rw [List.getElem?_map, hj]; rfl
            have := (List.getElem?_inj (List.getElem?_eq_some_iff.1 hi').1 hF.wf.nb).1 (hi'.trans hj'.symm)
            subst this
            rw [hi] at hj; exact Option.some.inj hj
          subst this
          simp [wrong]
        · have : ((vis ++ [(born, key, val)]).map (·.1)).contains e'.1 = (vis.map (·.1)).contains e'.1 := by
            rw [List.map_append, List.contains_append]
            simp [hb]
          simp only [wrong, this, if_neg hb]
      have hN1 : (cs.all fun x => x.right key) = true → (mm.filter fun e => !wrong (vis ++ [(born, key, val)]) e) = mm.filter fun e => !wrong vis e := fun h => List.filter_congr fun e' he' => by
        rw [hnext e' he', h]
        split
        · rename_i hb
          have : (vis.map (·.1)).contains e'.1 = false := by rw [hb]; simpa using hev
          simp only [wrong, this]; rfl
        · rfl
      have hN2 : (cs.all fun x => x.right key) = false → (mm.filter fun e => !wrong (vis ++ [(born, key, val)]) e) = (mm.filter fun e => !wrong vis e).filter fun e => decide (key ≠ e.2.1) := fun h => by
        rw [List.filter_filter]
        refine List.filter_congr fun e' he' => ?_
        rw [hnext e' he', h]
        have huniq : e'.1 = born ↔ key = e'.2.1 := by
          obtain ⟨i, hi⟩ := List.getElem?_of_mem he'
          obtain ⟨j, hj⟩ := List.getElem?_of_mem he
          constructor
          · intro hb
            have hi' : (mm.map (·.1))[i]? = some born := by rw [List.getElem?_map, hi]; simp [hb]
            have hj' : (mm.map (·.1))[j]? = some born := by rw [List.getElem?_map, hj]; rfl
            have := (List.getElem?_inj (List.getElem?_eq_some_iff.1 hi').1 hF.wf.nb).1 (hi'.trans hj'.symm)
            subst this
            rw [hi] at hj; rw [Option.some.inj hj]
          · intro hb
            have hi' : (mm.map (·.2.1))[i]? = some key := by rw [List.getElem?_map, hi]; simp [hb]
            have hj' : (mm.map (·.2.1))[j]? = some key := by rw [List.getElem?_map, hj]; rfl
            have := (List.getElem?_inj (List.getElem?_eq_some_iff.1 hi').1 hF.wf.nk).1 (hi'.trans hj'.symm)
            subst this
            rw [hi] at hj; rw [Option.some.inj hj]
        by_cases hb : e'.1 = born
        · rw [if_pos hb]; simp [huniq.1 hb]
        · rw [if_neg hb]
          have : ¬ key = e'.2.1 := fun h => hb (huniq.2 h)
          simp [this]
      generalize hcu : (mm.filter fun e => !wrong vis e) = cur at hcur hwf hfind hnd hdel hN2 ⊢
      obtain ⟨p0, p1, p2, p3, p4, p5, rfl⟩ := len6 hlen
      have hkey' : keyT sh6 [p0, p1, p2, p3, p4, p5] = .agg [vi p0, vi p1, vi p2, vi p3, vi p4, vi p5] := rfl
      simp only [go_sem, Nat.reduceEqDiff, Nat.reduceAdd, mapOf?, List.getLast?_concat, hnd, hfind, hkey', List.length_map]
      refine awpL_for (i := 63) (L := 62) cs.length (fun j s => (cs.take j).all (fun x => x.right [p0, p1, p2, p3, p4, p5]) = true ∧ s = { env := [(63, .t (vi j)), (62, .t (vi cs.length)), (61, .t (.slice 1 (cs.map tC))), (13, .t (.ptr (.agg [vi p0, vi p1, vi p2, vi p3, vi p4, vi p5]) 0)), (56, .iter 1), (5, .map 0), (1, .t (.slice 1 (cs.map tC)))], σ := [.map sh6 (mks cur) (mvs cur) clk, .iter (.map 0) clk (vis.map (·.1) ++ [born]) clk], df := List.replicate d .mark, k := 0 })
        ?_ ⟨_, Sub.gc [0, 1] [63, 62, 61, 13, 56, 5, 1] rfl rfl, rfl, St.gc_mk rfl rfl (by simp [Df.gc]) rfl⟩ ?_ ?_
      · rintro j s ⟨_, rfl⟩; exact ⟨rfl, rfl⟩
      · rintro j s hj ⟨ha, rfl⟩
        have hw : IntKind.i64.wrap ((j : Int) + 1) = ((j + 1 : Nat) : Int) := by rw [wrap_id (by omega) (by omega)]; omega
        have hcj : cs[j]? = some cs[j] := List.getElem?_eq_getElem hj
        have hcm := List.mem_of_getElem? hcj
        have htk : cs.take (j + 1) = cs.take j ++ [cs[j]] := List.take_succ_eq_append_getElem hj
        generalize cs[j] = x at *
        simp only [go_sem, Nat.reduceEqDiff, List.getElem?_map, hcj]
        have hcall : ∀ {σ : List AO} {R : Lz (Out → List AO → Prop)}, R.get (.ret (.t (vb (x.right [p0, p1, p2, p3, p4, p5])))) σ → @ACallL Try.prog (if x.hut then 134 else 135) [.t (.agg [vi x.number, vi x.lo, vi x.hi]), .t (.agg [vi p0, vi p1, vi p2, vi p3, vi p4, vi p5])] σ R := fun h => by
          cases hh : x.hut
          · exact ACallL.fresh1 (rightV_ok x hh (hcs x hcm) [p0, p1, p2, p3, p4, p5] rfl) rfl h
          · exact ACallL.fresh1 (rightH_ok x hh (hcs x hcm) [p0, p1, p2, p3, p4, p5] rfl) rfl h
        have hmf : mfind [(146, 134), (147, 135)] (if x.hut then 146 else 147) = some (if x.hut then 134 else 135) := by cases x.hut <;> rfl
        simp only [tC, go_sem, Nat.reduceEqDiff, Nat.reduceAdd, hmf]
        refine hcall ?_
        cases hr : x.right [p0, p1, p2, p3, p4, p5]
        · have hfalse : (cs.all fun x => x.right [p0, p1, p2, p3, p4, p5]) = false := by
            refine List.all_eq_false.2 ⟨x, hcm, by rw [hr]; simp⟩
          obtain ⟨i, hk1, hk2, hk3⟩ := hdel
          have htoK : toKey sh6 (.t (.agg [vi p0, vi p1, vi p2, vi p3, vi p4, vi p5])) = some [p0, p1, p2, p3, p4, p5] := rfl
          simp only [go_sem, Nat.reduceEqDiff, Nat.reduceAdd, Bool.not_false, htoK, hk1, hk2, hk3]
          refine ⟨_, Sub.gc [0, 1] [56, 5, 1] rfl rfl, ?_⟩
          rw [hN2 hfalse]
          exact St.gc_mk rfl (by rw [List.map_append]; rfl) (by simp [Df.gc]) rfl
        · simp only [go_sem, Nat.reduceEqDiff, Bool.not_true, hw]
          exact ⟨_, Sub.gc [0, 1] [63, 62, 61, 13, 56, 5, 1] rfl rfl, by rw [htk, List.all_append, ha]; simp [hr], St.gc_mk rfl rfl (by simp [Df.gc]) rfl⟩
      · rintro s ⟨ha, rfl⟩
        rw [List.take_length] at ha
        simp only [go_sem, Nat.reduceEqDiff]
        refine ⟨_, Sub.gc [0, 1] [56, 5, 1] rfl rfl, ?_⟩
        rw [hN1 ha, hcu]
        exact St.gc_mk rfl (by rw [List.map_append]; rfl) (by simp [Df.gc]) rfl
    · rintro vis s hp rfl
      have hall : (mm.filter fun e => !wrong vis e) = mm.filter fun e => cs.all fun c => c.right e.2.1 := by
        refine List.filter_congr fun e he => ?_
        have : (vis.map (·.1)).contains e.1 = true := by
          have := List.mem_map_of_mem (f := (·.1)) (hp.symm.subset he)
          simpa using this
        simp only [wrong, this]; simp
      rw [hall]
      simp only [go_sem, Nat.reduceEqDiff]
      refine finL_ret [] ⟨by simp, rfl, rfl, rfl, _, rfl, ?_⟩
      exact ⟨rfl, _, _, rfl, hF.ends ht⟩
end Go.Proofs.Ytcpkkjbkbdmopaa

/- How many truths; what a bather has kept in them; spans of keys. -/
namespace Go.Proofs.Ytcpkkjbkbdmopaa
open Go Go.Ab

def allC (t : Tw) : List Cnt := cnts t (2 ^ t.hs.length - 1) (2 ^ t.vs.length - 1)
def truthsA (t : Tw) (o m : Int) (z : Nat) : List (List Int) := truthsC t o m z (allC t)

theorem pow_cast (n : Nat) : ((2 ^ n : Nat) : Int) - 1 = ((2 ^ n - 1 : Nat) : Int) := by
  have : 0 < 2 ^ n := Nat.two_pow_pos n
  omega

theorem cnts_num (t : Tw) (ht : t.OK) (a b : Nat) : ∀ c ∈ cnts t a b, c.number < 3 := by
  intro c hc
  have h1 := ht.nh
  have h2 := ht.nv
  unfold cnts cntsOf at hc
  rcases List.mem_append.1 hc with hc | hc
  all_goals
    obtain ⟨p, hp, rfl⟩ := List.mem_map.1 hc
    have := List.mem_zipIdx (List.mem_filter.1 hp).1
    simp only
    omega

theorem cnts_len (t : Tw) (ht : t.OK) (a b : Nat) : (cnts t a b).length ≤ 6 := by
  have h1 := ht.nh
  have h2 := ht.nv
  unfold cnts
  have := cntsOf_len true t.hs a
  have := cntsOf_len false t.vs b
  rw [List.length_append]
  omega

theorem pow_small {n : Nat} (h : n ≤ 3) : 2 ^ n - 1 < 8 := by
  have : n = 0 ∨ n = 1 ∨ n = 2 ∨ n = 3 := by omega
  rcases this with rfl | rfl | rfl | rfl <;> decide

theorem one_sum {α : Type} (l : List α) : (l.map fun _ => (1 : Int)).sum = l.length := by
  induction l with
  | nil => rfl
  | cons x l ih => simp only [List.map_cons, List.sum_cons, ih, List.length_cons]; omega

theorem truthsC_many {t : Tw} (ht : t.OK) {o m : Int} {z : Nat} {cs : List Cnt} : (truthsC t o m z cs).length ≤ 15625 := by
  have h1 := tupsK_many ht (o := o) (m := m) (z := z) (k := t.bs.length) (Nat.le_refl _)
  have h2 : 5 ^ t.bs.length ≤ 5 ^ 6 := Nat.pow_le_pow_right (by omega) ht.nb
  have h3 : (5 : Nat) ^ 6 = 15625 := by decide
  exact Nat.le_trans (List.length_filter_le _ _) (by omega)

theorem EndsOK.all {t : Tw} {o m : Int} {z : Nat} {cs : List Cnt} {mm : List ME} {clk : Nat} (h : EndsOK t o m z cs mm clk) : wsum (fun _ => 1) mm = (truthsC t o m z cs).length := by
  rw [h.sum, one_sum]

theorem ways_ok (t : Tw) (ht : t.OK) (o m : Int) (z : Nat) (hz : z < 64) : ACall Try.prog 68 [.t (tBeach t o m z)] [] (ret (vi (truthsA t o m z).length)) := by
  refine ACall.walk k68 ?_
  unfold c68
  simp only [go_sem, Nat.reduceEqDiff]
  refine ACallL.fresh1 (every_ok t ht o m z) rfl ?_
  simp only [go_sem, Nat.reduceEqDiff, pow_cast]
  refine ACallL.fresh1 (counts_ok t ht o m z _ _ (pow_small ht.nh) (pow_small ht.nv)) rfl ?_
  simp only [go_sem, Nat.reduceEqDiff]
  refine ACallL.freshR (ends_ok t ht o m z hz (allC t) (cnts_num t ht _ _) (cnts_len t ht _ _)) rfl (fun _ _ h => h.1) ?_
  rintro out ⟨_, mm, clk, rfl, hE⟩
  simp only [go_sem, Nat.reduceEqDiff, mapOf?]
  refine awpL_mapRange mm hE.wf.nb 0 clk (.t (.map sh6 (mks mm) (mvs mm) clk)) sh6 (fun vis s => s = { env := [(13, .iter 0), (2, .t (vi (wsum (fun _ => 1) vis)))], σ := [.iter (.t (.map sh6 (mks mm) (mvs mm) clk)) clk (vis.map (·.1)) clk], df := [], k := 0 })
    ?_ ⟨_, Sub.gc [0] [13, 2] rfl rfl, rfl⟩ ?_ ?_
  · rintro vis s rfl
    exact ⟨rfl, rfl, mm, rfl, hE.wf.lt, rfl⟩
  · rintro vis e s he hev hvs hvn rfl
    have hfind := ent_find hE.wf.nb he
    have hnd := mks_nodup hE.wf.nb
    have hval := vi_iv hE.pos he
    have hn' : (vis ++ [e]).Nodup := by
      rw [List.nodup_append]
      exact ⟨nodup_of_map _ hvn, by simp, fun a ha b hb => by simp at hb; rw [hb]; exact fun h => hev (List.mem_map_of_mem (f := (·.1)) (h ▸ ha))⟩
    obtain ⟨r, hr⟩ : ∃ r, (vis ++ [e] ++ r).Perm mm := by
      classical
      exact perm_rest hn' fun x hx => by
        rcases List.mem_append.1 hx with hx | hx
        · exact hvs x hx
        · simp at hx; rw [hx]; exact he
    have hsum : wsum (fun _ => 1) vis + iv e.2.2 + wsum (fun _ => 1) r = wsum (fun _ => 1) mm := by
      rw [← wsum_perm hr, wsum_append, wsum_append]; simp [wsum]
    have hrp : 0 ≤ wsum (fun _ => 1) r := MPos.le (fun x hx => hE.pos x (hr.subset (by simp [hx]))) fun _ => by omega
    have hvp : 0 ≤ wsum (fun _ => 1) vis := MPos.le (fun x hx => hE.pos x (hvs x hx)) fun _ => by omega
    have hep := (hE.pos e he).2
    have hmany := truthsC_many ht (o := o) (m := m) (z := z) (cs := allC t)
    rw [hE.all] at hsum
    have hw : IntKind.i64.wrap (wsum (fun _ => 1) vis + iv e.2.2) = wsum (fun _ => 1) (vis ++ [e]) := by
      rw [wrap_id (by omega) (by omega), wsum_append]; simp [wsum]
    simp only [go_sem, Nat.reduceEqDiff, mapOf?, List.getLast?_concat, hnd, hfind]
    rw [hval]
    simp only [go_sem, Nat.reduceEqDiff, hw]
    exact ⟨_, Sub.gc [0] [13, 2] rfl rfl, St.gc_mk rfl (by rw [List.map_append]; rfl) rfl rfl⟩
  · rintro vis s hp rfl
    simp only [go_sem, Nat.reduceEqDiff]
    refine finL_ret [] ⟨rfl, rfl, rfl, rfl, _, rfl, res_mk ?_⟩
    rw [wsum_perm hp, hE.all]
    rfl

theorem told_ok (t : Tw) (ht : t.OK) (o m : Int) (z : Nat) (hz : z < 64) : ACall Try.prog 60 [.t (tBeach t o m z)] [] (res (if 0 < (truthsA t o m z).length then .ret (.t (tBeach t o m z)) else .pan (rfs 10))) := by
  refine ACall.walk k60 ?_
  unfold c60
  simp only [go_sem, Nat.reduceEqDiff]
  refine ACallL.fresh1 (ways_ok t ht o m z hz) rfl ?_
  simp only [go_sem, Nat.reduceEqDiff]
  refine ACallL.quiet1 (ask_ok _ 10) rfl rfl (by simp only [askO]; split <;> rfl) ?_
  by_cases h : 0 < (truthsA t o m z).length
  · have h' : decide (((truthsA t o m z).length : Int) > 0) = true := by simpa using h
    simp only [h', go_sem, Nat.reduceEqDiff, askO, if_true]
    exact finL_ret [] ⟨rfl, rfl, rfl, rfl, _, rfl, res_mk (by rw [if_pos h]; rfl)⟩
  · have h' : decide (((truthsA t o m z).length : Int) > 0) = false := by simpa using h
    simp only [h', go_sem, askO, Bool.false_eq_true, if_false]
    exact finL_pan [] ⟨rfl, rfl, rfl, rfl, res_mk (by rw [if_neg h])⟩

/-! ### Spans of keys -/
def hullOf (l : List Int) : Int × Int := (l.foldl min 1073741824, l.foldl max (-1073741824))

theorem foldl_min_perm {a b : List Int} (h : a.Perm b) (x : Int) : a.foldl min x = b.foldl min x := h.foldl_eq' (fun _ _ _ _ _ => by omega) x
theorem foldl_max_perm {a b : List Int} (h : a.Perm b) (x : Int) : a.foldl max x = b.foldl max x := h.foldl_eq' (fun _ _ _ _ _ => by omega) x
theorem hullOf_perm {a b : List Int} (h : a.Perm b) : hullOf a = hullOf b := by unfold hullOf; rw [foldl_min_perm h, foldl_max_perm h]

abbrev sh1 : Sh := (none, some .i64)
def key1 (e : ME) : Int := e.2.1.headD 0

theorem hull_ok (mm : List ME) (clk : Nat) (hwf : MWF sh1 mm clk) : ACall Try.prog 62 [.t (.map sh1 (mks mm) (mvs mm) clk)] [] (ret (tS (hullOf (mm.map key1)))) := by
  refine ACall.walk k62 ?_
  unfold c62
  simp only [go_sem, Nat.reduceEqDiff, Nat.reduceAdd, Nat.reduceLeDiff, mapOf?]
  refine awpL_mapRange mm hwf.nb 1 clk (.t (.map sh1 (mks mm) (mvs mm) clk)) sh1 (fun vis s => s = { env := [(6, .iter 1), (2, .ptr 0 0)], σ := [.cells [.t (vi (hullOf (vis.map key1)).1), .t (vi (hullOf (vis.map key1)).2)], .iter (.t (.map sh1 (mks mm) (mvs mm) clk)) clk (vis.map (·.1)) clk], df := [], k := 0 })
    ?_ ⟨_, Sub.gc [0, 1] [6, 2] rfl rfl, rfl⟩ ?_ ?_
  · rintro vis s rfl
    exact ⟨rfl, rfl, mm, rfl, hwf.lt, rfl⟩
  · rintro vis e s he hev hvs hvn rfl
    have hfind := ent_find hwf.nb he
    have hnd := mks_nodup hwf.nb
    have hk : keyT sh1 e.2.1 = vi (key1 e) := rfl
    simp only [go_sem, Nat.reduceEqDiff, Nat.reduceAdd, Nat.reduceLeDiff, mapOf?, List.getLast?_concat, hnd, hfind, hk]
    refine ⟨_, Sub.gc [0, 1] [6, 2] rfl rfl, St.gc_mk rfl ?_ rfl rfl⟩
    simp only [List.map_append, List.map_cons, List.map_nil, hullOf, List.foldl_append, List.foldl_cons, List.foldl_nil]
    rfl
  · rintro vis s hp rfl
    simp only [go_sem, Nat.reduceEqDiff, Nat.reduceAdd]
    refine finL_ret [] ⟨rfl, rfl, rfl, rfl, _, rfl, res_mk ?_⟩
    rw [hullOf_perm (hp.map key1)]
    rfl

theorem hullB_ok (mm : List ME) (clk : Nat) (hwf : MWF sh1 mm clk) : ACall Try.prog 58 [.t (.map sh1 (mks mm) (mvs mm) clk)] [] (ret (tS (hullOf (mm.map key1)))) := by
  refine ACall.walk k58 ?_
  unfold c58
  simp only [go_sem, Nat.reduceEqDiff, Nat.reduceAdd, Nat.reduceLeDiff, mapOf?]
  refine awpL_mapRange mm hwf.nb 1 clk (.t (.map sh1 (mks mm) (mvs mm) clk)) sh1 (fun vis s => s = { env := [(6, .iter 1), (2, .ptr 0 0)], σ := [.cells [.t (vi (hullOf (vis.map key1)).1), .t (vi (hullOf (vis.map key1)).2)], .iter (.t (.map sh1 (mks mm) (mvs mm) clk)) clk (vis.map (·.1)) clk], df := [], k := 0 })
    ?_ ⟨_, Sub.gc [0, 1] [6, 2] rfl rfl, rfl⟩ ?_ ?_
  · rintro vis s rfl
    exact ⟨rfl, rfl, mm, rfl, hwf.lt, rfl⟩
  · rintro vis e s he hev hvs hvn rfl
    have hfind := ent_find hwf.nb he
    have hnd := mks_nodup hwf.nb
    have hk : keyT sh1 e.2.1 = vi (key1 e) := rfl
    simp only [go_sem, Nat.reduceEqDiff, Nat.reduceAdd, Nat.reduceLeDiff, mapOf?, List.getLast?_concat, hnd, hfind, hk]
    refine ⟨_, Sub.gc [0, 1] [6, 2] rfl rfl, St.gc_mk rfl ?_ rfl rfl⟩
    simp only [List.map_append, List.map_cons, List.map_nil, hullOf, List.foldl_append, List.foldl_cons, List.foldl_nil]
    rfl
  · rintro vis s hp rfl
    simp only [go_sem, Nat.reduceEqDiff, Nat.reduceAdd]
    refine finL_ret [] ⟨rfl, rfl, rfl, rfl, _, rfl, res_mk ?_⟩
    rw [hullOf_perm (hp.map key1)]
    rfl
end Go.Proofs.Ytcpkkjbkbdmopaa

/- Of each number that a bather can have kept, in how many truths it is that. -/
namespace Go.Proofs.Ytcpkkjbkbdmopaa
open Go Go.Ab

def waysN (t : Tw) (n : Nat) (z : Nat) (k : Int) : Int := (truthsA t n k z).length
/-- What is told of the first numbers. -/
structure OfOK (t : Tw) (n : Nat) (z : Nat) (ks : List Int) (mm : List ME) (clk : Nat) : Prop where
  wf : MWF sh1 mm clk
  pos : MPos mm
  is : mm.map (fun e => (key1 e, iv e.2.2)) = (ks.map fun k => (k, waysN t n z k)).filter fun p => decide (0 < p.2)

theorem OfOK.nil {t : Tw} {n z : Nat} : OfOK t n z [] [] 0 := ⟨MWF.nil rfl, fun e he => by simp at he, rfl⟩

theorem key1_of {mm : List ME} {clk : Nat} (h : MWF sh1 mm clk) {e : ME} (he : e ∈ mm) : e.2.1 = [key1 e] := by
  have := h.lens e he
  match hk : e.2.1, this with
  | [x], _ => simp [key1, hk]

theorem OfOK.keys {t : Tw} {n z : Nat} {ks : List Int} {mm : List ME} {clk : Nat} (h : OfOK t n z ks mm clk) : ∀ e ∈ mm, key1 e ∈ ks := by
  intro e he
  have : (key1 e, iv e.2.2) ∈ mm.map (fun e => (key1 e, iv e.2.2)) := List.mem_map_of_mem (f := fun e => (key1 e, iv e.2.2)) he
  rw [h.is] at this
  obtain ⟨k, hk, e⟩ := List.mem_map.1 (List.mem_filter.1 this).1
  have e1 : k = key1 _ := congrArg Prod.fst e
  rw [← e1]
  exact hk

theorem OfOK.no {t : Tw} {n z : Nat} {ks : List Int} {mm : List ME} {clk : Nat} (h : OfOK t n z ks mm clk) {k : Int} (hk : k ∉ ks) : (mm.findIdx? fun e => decide ([k] = e.2.1)) = none := by
  rw [List.findIdx?_eq_none_iff]
  intro e he
  rw [key1_of h.wf he]
  have := h.keys e he
  simp only [List.cons.injEq, and_true, decide_eq_false_iff_not]
  rintro rfl
  exact hk this

theorem OfOK.put {t : Tw} {n z : Nat} {ks : List Int} {mm : List ME} {clk : Nat} (h : OfOK t n z ks mm clk) {k : Int} (hk : k ∉ ks) (hw : 0 < waysN t n z k) : OfOK t n z (ks ++ [k]) (mm ++ [(clk, [k], vi (waysN t n z k))]) (clk + 1) := by
  have hno := h.no hk
  have e : mupd mm clk [k] (vi (waysN t n z k)) = mm ++ [(clk, [k], vi (waysN t n z k))] := by unfold mupd; rw [hno]
  have e' : mclk mm clk [k] = clk + 1 := by unfold mclk; rw [hno]
  rw [← e, ← e']
  refine ⟨mupd_wf h.wf rfl _, ?_, ?_⟩
  · rw [e]
    intro x hx
    rcases List.mem_append.1 hx with hx | hx
    · exact h.pos x hx
    · simp at hx; subst hx; exact ⟨rfl, hw⟩
  · rw [e, List.map_append, h.is, List.map_append, List.filter_append]
    congr 1
    simp [key1, iv, hw]

theorem OfOK.skip {t : Tw} {n z : Nat} {ks : List Int} {mm : List ME} {clk : Nat} (h : OfOK t n z ks mm clk) {k : Int} (hw : ¬ 0 < waysN t n z k) : OfOK t n z (ks ++ [k]) mm clk :=
  ⟨h.wf, h.pos, by rw [h.is, List.map_append, List.filter_append]; simp [hw]⟩

theorem rangeI_nodup (lo hi : Int) : (rangeI lo hi).Nodup := by
  unfold rangeI
  have : ∀ l : List Nat, l.Nodup → (l.map fun j : Nat => lo + (j : Int)).Nodup := by
    intro l
    induction l with
    | nil => intro _; simp
    | cons x l ih =>
      intro h
      have h := List.nodup_cons.1 h
      simp only [List.map_cons, List.nodup_cons]
      refine ⟨fun hm => ?_, ih h.2⟩
      obtain ⟨y, hy, e⟩ := List.mem_map.1 hm
      have : x = y := by omega
      exact h.1 (this ▸ hy)
  exact this _ List.nodup_range

theorem canL_nodup {b : B} {i : Nat} {o m : Int} {z : Nat} : (canL b i o m z).Nodup := (rangeI_nodup _ _).sublist List.filter_sublist

set_option maxRecDepth 4000 in
theorem of_ok (t : Tw) (ht : t.OK) (o m : Int) (z : Nat) (hz : z < 64) (n : Nat) (b : B) (hb : t.bs[n]? = some b) :
    ACall Try.prog 61 [.t (tBeach t o m z), .t (vi n)] [] fun out σ => σ = [] ∧ ∃ mm clk, out = .ret (.t (.map sh1 (mks mm) (mvs mm) clk)) ∧ OfOK t n z (canL b n o m z) mm clk := by
  refine ACall.walk k61 ?_
  unfold c61 tBeach
  simp only [go_sem, Nat.reduceEqDiff, Nat.reduceAdd, Nat.reduceLeDiff]
  refine ACallL.fresh1 (can_ok t o m z n) rfl ?_
  simp only [go_sem]
  refine awpL_rangeF2 (f := 113) (fs := []) (cs := [.ptr (.agg [tBeach t o m z]) 0, .ptr (.agg [vi n]) 0]) ((canL b n o m z).map (.int .i64)) (fun j σ => ∃ mm clk w, OfOK t n z ((canL b n o m z).take j) mm clk ∧
      σ = [.map sh1 (mks mm) (mvs mm) clk, .cells [.map 0], .cells [.t (.slice 6 (t.bs.map tB)), .t (.slice 2 (t.hs.map tS)), .t (.slice 2 (t.vs.map tS)), .t (vi n), .t (vi w), .t (vi z)]])
    [0, 1, 2] [5, 6] [(5, .ptr 1 0), (6, .ptr 2 0)] [] rfl rfl rfl rfl (canGen t ht o m z n hz b hb) rfl rfl ⟨[], 0, m, OfOK.nil, rfl⟩ ?_ ?_
  · rintro l j v σ hj ⟨mm, clk, w, hO, rfl⟩
    rw [List.getElem?_map] at hj
    obtain ⟨k, hjk, rfl⟩ := Option.map_eq_some_iff.1 hj
    have htk : (canL b n o m z).take (j + 1) = (canL b n o m z).take j ++ [k] := by
      obtain ⟨hlt, e⟩ := List.getElem?_eq_some_iff.1 hjk
      rw [List.take_succ_eq_append_getElem hlt, e]
    have hnot : k ∉ (canL b n o m z).take j := fun hm => by
      have hnd := canL_nodup (b := b) (i := n) (o := o) (m := m) (z := z)
      obtain ⟨i, hi⟩ := List.getElem?_of_mem hm
      rw [List.getElem?_take] at hi
      split at hi
      · rename_i hij
        have := (List.getElem?_inj (List.getElem?_eq_some_iff.1 hi).1 hnd).1 (hi.trans hjk.symm)
        omega
      · cases hi
    simp only [go_sem, Nat.reduceEqDiff, Nat.reduceAdd, Nat.reduceLeDiff]
    refine ACallL.quiet1 (ways_ok t ht n k z hz) rfl rfl rfl ?_
    simp only [go_sem, Nat.reduceEqDiff]
    have hwk : ((truthsA t n k z).length : Int) = waysN t n z k := rfl
    rw [hwk]
    refine BrL.mk (fun h => ?_) (fun h => ?_)
    · have h' : 0 < waysN t n z k := by simpa using h
      have hk1 : toKey sh1 (.t (vi k)) = some [k] := rfl
      have hkf : kfind sh1 (mks mm) [k] = none := by rw [kfind_int hO.wf.ints rfl hO.wf.lens]; exact hO.no hnot
      simp only [go_sem, Nat.reduceEqDiff, Nat.reduceAdd, hk1, hkf]
      refine ⟨[0, 1, 2], rfl, rfl, _, _, k, by rw [htk]; exact hO.put hnot h', ?_⟩
      rw [mks_append, mvs_append]
      rfl
    · have h' : ¬ 0 < waysN t n z k := by simpa using h
      simp only [go_sem, Nat.reduceAdd]
      exact ⟨[0, 1, 2], rfl, rfl, _, _, k, by rw [htk]; exact hO.skip h', rfl⟩
  · rintro σ ⟨mm, clk, w, hO, rfl⟩
    rw [List.length_map, List.take_length] at hO
    simp only [go_sem, Nat.reduceEqDiff]
    exact finL_ret [] ⟨rfl, rfl, rfl, rfl, _, rfl, rfl, mm, clk, rfl, hO⟩
end Go.Proofs.Ytcpkkjbkbdmopaa

/- Refusals become errors; the best of a list; by what is chosen. -/
namespace Go.Proofs.Ytcpkkjbkbdmopaa
open Go Go.Ab

theorem answer_pan {σ : List AO} {id : Nat} {x : E} {e : Int} (h : σ[id]? = some (.cells [x])) : ADef Try.prog 51 [.ptr id 0] σ (some (rfs e)) fun σ' => σ' = σ.set id (.cells [.t (vi e)]) := by
  refine ADef.walk a51 ?_
  unfold c51
  simp only [pxT, rfs, go_sem, Nat.reduceEqDiff, Bool.not_true, h]

theorem answer_none {σ : List AO} {a : E} : ADef Try.prog 51 [a] σ none fun σ' => σ' = σ := by
  refine ADef.walk a51 ?_
  unfold c51
  simp only [pxT, go_sem, Nat.reduceEqDiff, Bool.not_true]

/-! ### The best of a list -/
def bestStep {α : Type} (g : α → Int × Bool) (acc : Option (α × Int)) (y : α) : Option (α × Int) :=
  if (g y).2 then (match acc with
    | none => some (y, (g y).1)
    | some (x, n) => if (g y).1 < n then some (y, (g y).1) else some (x, n)) else acc
def bestL {α : Type} (g : α → Int × Bool) (l : List α) : Option (α × Int) := l.foldl (bestStep g) none
def bestE {α : Type} (z : T) (tα : α → T) : Option (α × Int) → List E
  | none => [.t z, .t (vi 0), .t (vb false)]
  | some (y, n) => [.t (tα y), .t (vi n), .t (vb true)]

def tN (n : Nat) : T := vi n
def tP (p : Nat × Nat) : T := .slice 1 [vi p.1, vi p.2]
set_option maxRecDepth 2000 in
theorem bestN_ok (g : Nat → Int × Bool) (f : Nat) (caps : List T) (l : List Nat) (hl : l.length ≤ 100000) (h : ∀ y ∈ l, ACall Try.prog f ([.t (tN y)] ++ caps.map .t) [] (res (.ret (.tup [.t (vi (g y).1), .t (vb (g y).2)])))) :
    ACall Try.prog 69 [.t (.slice 1 (l.map tN)), .t (.agg [.fn (.func f) [] caps])] [] (res (.ret (.tup (bestE (vi 0) tN (bestL g l))))) := by
  refine ACall.walk k69 ?_
  unfold c69
  simp only [go_sem, Nat.reduceEqDiff, List.length_map]
  refine awpL_for (i := 13) (L := 12) l.length (fun k s => ∃ x n b, bestE (vi 0) tN (bestL g (l.take k)) = [.t x, .t (vi n), .t (vb b)] ∧ s = { env := [(13, .t (vi k)), (12, .t (vi l.length)), (11, .t (.slice 1 (l.map tN))), (4, .t x), (5, .t (vi n)), (6, .t (vb b)), (3, .t (.ptr (.agg [.fn (.func f) [] caps]) 0))], σ := [] })
    ?_ ⟨_, Sub.gc [] [13, 12, 11, 4, 5, 6, 3] rfl rfl, _, _, _, rfl, rfl⟩ ?_ ?_
  · rintro k s ⟨x, n, b, _, rfl⟩; exact ⟨rfl, rfl⟩
  · rintro k s hk ⟨x, n, b, hacc, rfl⟩
    have hw : IntKind.i64.wrap ((k : Int) + 1) = ((k + 1 : Nat) : Int) := by rw [wrap_id (by omega) (by omega)]; omega
    have hy : l[k]? = some l[k] := List.getElem?_eq_getElem hk
    have htk : l.take (k + 1) = l.take k ++ [l[k]] := List.take_succ_eq_append_getElem hk
    have hcall := h l[k] (List.getElem_mem hk)
    generalize l[k] = y at *
    have hstep : bestL g (l.take (k + 1)) = bestStep g (bestL g (l.take k)) y := by rw [htk]; unfold bestL; rw [List.foldl_append]; rfl
    simp only [go_sem, Nat.reduceEqDiff, List.getElem?_map, hy, tN]
    refine ACallL.fresh1 hcall ?_ ?_
    · simp [E.isT]
    simp only [go_sem, Nat.reduceEqDiff]
    generalize hacc' : bestL g (l.take k) = acc at *
    cases hg : (g y).2
    · simp only [go_sem, Nat.reduceEqDiff, undef, hw]
      refine ⟨_, Sub.gc [] [13, 12, 11, 4, 5, 6, 3] rfl rfl, x, n, b, ?_, rfl⟩
      rw [hstep]; simp only [bestStep, hg, Bool.false_eq_true, if_false]; exact hacc
    · cases acc with
      | none =>
        simp only [bestE, List.cons.injEq, E.t.injEq, T.lit.injEq, Value.int.injEq, Value.bool.injEq, and_true, true_and] at hacc
        obtain ⟨rfl, rfl, rfl⟩ := hacc
        simp only [go_sem, Nat.reduceEqDiff, Bool.not_true, Bool.not_false, undef, hw]
        refine ⟨_, Sub.gc [] [13, 12, 11, 4, 5, 6, 3] rfl rfl, tN y, (g y).1, true, ?_, rfl⟩
        rw [hstep]; simp only [bestStep, hg, if_true]; rfl
      | some p =>
        obtain ⟨x', n'⟩ := p
        simp only [bestE, List.cons.injEq, E.t.injEq, T.lit.injEq, Value.int.injEq, Value.bool.injEq, and_true, true_and] at hacc
        obtain ⟨rfl, rfl, rfl⟩ := hacc
        simp only [go_sem, Nat.reduceEqDiff, Bool.not_true, Bool.not_false]
        refine BrL.mk (fun hlt => ?_) (fun hlt => ?_)
        · have hlt' : (g y).1 < n' := by simpa using hlt
          simp only [go_sem, Nat.reduceEqDiff, hw]
          refine ⟨_, Sub.gc [] [13, 12, 11, 4, 5, 6, 3] rfl rfl, tN y, (g y).1, true, ?_, rfl⟩
          rw [hstep]; simp only [bestStep, hg, if_true, if_pos hlt']; rfl
        · have hlt' : ¬ (g y).1 < n' := by simpa using hlt
          simp only [go_sem, Nat.reduceEqDiff, hw]
          refine ⟨_, Sub.gc [] [13, 12, 11, 4, 5, 6, 3] rfl rfl, tN x', n', true, ?_, rfl⟩
          rw [hstep]; simp only [bestStep, hg, if_true, if_neg hlt']; rfl
  · rintro s ⟨x, n, b, hacc, rfl⟩
    rw [List.take_length] at hacc
    simp only [go_sem, Nat.reduceEqDiff]
    refine finL_ret [] ⟨rfl, rfl, rfl, rfl, _, rfl, res_mk ?_⟩
    rw [hacc]
    rfl
end Go.Proofs.Ytcpkkjbkbdmopaa
