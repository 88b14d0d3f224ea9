/- Proved here: laws that the statements need (FlC1). No conditions but those that each law states. -/
import Derived.Test.YtkbjodmpmmnhgaaDoorFL
import Derived.Test.YtkbjodmpmmnhgaaDoorProg

set_option linter.unusedSimpArgs false
set_option linter.unusedVariables false

/- Compiled code of package flag, printed by program; each is checked to be the program's. No conditions. -/
/- Compiled code of functions, printed by program; each is checked to be the program's. No conditions. -/
namespace Go.Proofs.YtkbjodmpmmnhgaaDoor
open Go Go.Ab
def c15 : AC :=
 .seq (.reg [⟨(some 2), none, .box (.tmp 0)⟩,
    ⟨(some 4), none, .mov (.lit (.int .i64 0))⟩,
    ⟨(some 5), none, .alloc [(.int .i64 0)]⟩])
 (.seq (.reg [⟨none, none, .defer 44 [(.tmp 5)]⟩])
 (.seq (.draw (.step ⟨(some 7), none, .load true 5 (.tmp 2)⟩ (
    .step ⟨(some 8), none, .mov (.tmp 1)⟩ (
    .step ⟨(some 9), none, .faddr 3 (.tmp 2)⟩ (
    .step ⟨(some 10), none, .load false 1 (.tmp 9)⟩ (
    .step ⟨(some 11), none, .len (.tmp 10)⟩ (
    .step ⟨(some 12), none, .bin .sub (.tmp 11) (.lit (.int .i64 1))⟩ (
    .ev ⟨(some 13), none, .call (.fn 46) [(.tmp 8), (.lit (.int .i64 0)), (.tmp 12)]⟩ [⟨(some 11), none, .len (.tmp 10)⟩, ⟨(some 10), none, .load false 1 (.tmp 9)⟩, ⟨(some 9), none, .faddr 3 (.tmp 2)⟩, ⟨(some 7), none, .load true 5 (.tmp 2)⟩] (
    .ev ⟨(some 14), none, .call (.fn 45) [(.tmp 7), (.tmp 13)]⟩ [⟨(some 11), none, .len (.tmp 10)⟩, ⟨(some 10), none, .load false 1 (.tmp 9)⟩, ⟨(some 9), none, .faddr 3 (.tmp 2)⟩] (
     .step ⟨(some 6), none, .mov (.tmp 14)⟩ (
      .done))
     (.stop))
    (.stop)))))))))
 (.seq (.reg [⟨(some 15), none, .mov (.tmp 6)⟩,
    ⟨(some 16), none, .mov (.tmp 1)⟩,
    ⟨(some 17), none, .nilck (.tmp 15)⟩,
    ⟨(some 18), none, .faddr 5 (.tmp 17)⟩,
    ⟨(some 19), none, .faddr 0 (.tmp 18)⟩,
    ⟨(some 20), none, .iaddrA 9 1 (.tmp 19) (.tmp 16)⟩,
    ⟨(some 21), none, .load false 1 (.tmp 20)⟩,
    ⟨(some 4), none, .mov (.tmp 21)⟩,
    ⟨none, none, .store 1 (.tmp 5) (.lit (.int .i64 0))⟩])
 (.ret))))
theorem k15 : FnC Tryd.prog 15 22 [4, 5] [] [.tmp 4, .cell 5 false 1] c15 2 := ⟨Tryd.f15, _, Tryd.func15, rfl, by decide, rfl, by decide, by kernel_rfl, by kernel_rfl⟩
def c17 : AC :=
 .seq (.reg [⟨(some 1), none, .box (.tmp 0)⟩,
    ⟨(some 2), none, .mov (.lit (.int .i64 0))⟩,
    ⟨(some 3), none, .mov (.lit (.int .i64 0))⟩,
    ⟨(some 4), none, .alloc [(.int .i64 0)]⟩])
 (.seq (.reg [⟨none, none, .defer 44 [(.tmp 4)]⟩])
 (.seq (.reg [⟨(some 8), none, .load true 5 (.tmp 1)⟩,
    ⟨(some 9), none, .call (.fn 45) [(.tmp 8), (.lit (.bool true))]⟩,
    ⟨(some 5), none, .mov (.tmp 9)⟩])
 (.seq (.reg [⟨(some 10), none, .mov (.tmp 5)⟩,
    ⟨(some 11), none, .call (.fn 51) [(.tmp 10)]⟩,
    ⟨(some 12), none, .bin .gtr (.tmp 11) (.lit (.int .i64 0))⟩,
    ⟨(some 13), none, .call (.fn 50) [(.tmp 12), (.lit (.int .i64 10))]⟩])
 (.seq (.reg [⟨(some 15), none, .mov (.tmp 5)⟩,
    ⟨(some 16), none, .call (.fn 52) [(.tmp 15)]⟩,
    ⟨(some 14), none, .mov (.tmp 16)⟩,
    ⟨(some 17), none, .ext (.tmp 14) 0⟩,
    ⟨(some 18), none, .ext (.tmp 14) 1⟩,
    ⟨(some 6), none, .mov (.tmp 17)⟩,
    ⟨(some 7), none, .mov (.tmp 18)⟩])
 (.seq (.reg [⟨(some 19), none, .mov (.tmp 6)⟩,
    ⟨(some 20), none, .mov (.tmp 7)⟩,
    ⟨(some 2), none, .mov (.tmp 19)⟩,
    ⟨(some 3), none, .mov (.tmp 20)⟩,
    ⟨none, none, .store 1 (.tmp 4) (.lit (.int .i64 0))⟩])
 (.ret))))))
theorem k17 : FnC Tryd.prog 17 21 [2, 3, 4] [] [.tmp 2, .tmp 3, .cell 4 false 1] c17 1 := ⟨Tryd.f17, _, Tryd.func17, rfl, by decide, rfl, by decide, by kernel_rfl, by kernel_rfl⟩
def c19 : AC :=
 .seq (.reg [⟨(some 1), none, .box (.tmp 0)⟩,
    ⟨(some 2), none, .mov (.lit (.int .i64 0))⟩,
    ⟨(some 3), none, .alloc [(.int .i64 0)]⟩])
 (.seq (.reg [⟨none, none, .defer 44 [(.tmp 3)]⟩])
 (.seq (.reg [⟨(some 4), none, .load true 5 (.tmp 1)⟩,
    ⟨(some 5), none, .call (.fn 45) [(.tmp 4), (.lit (.bool true))]⟩,
    ⟨(some 6), none, .call (.fn 51) [(.tmp 5)]⟩,
    ⟨(some 2), none, .mov (.tmp 6)⟩,
    ⟨none, none, .store 1 (.tmp 3) (.lit (.int .i64 0))⟩])
 (.ret)))
theorem k19 : FnC Tryd.prog 19 7 [2, 3] [] [.tmp 2, .cell 3 false 1] c19 1 := ⟨Tryd.f19, _, Tryd.func19, rfl, by decide, rfl, by decide, by kernel_rfl, by kernel_rfl⟩
def c21 : AC :=
 .seq (.reg [⟨(some 1), none, .box (.tmp 0)⟩,
    ⟨(some 2), none, .alloc [(.int .i64 0), (.int .i64 0)]⟩,
    ⟨(some 3), none, .alloc [(.int .i64 0)]⟩])
 (.seq (.reg [⟨none, none, .defer 44 [(.tmp 3)]⟩])
 (.seq (.draw (.step ⟨(some 4), none, .load true 5 (.tmp 1)⟩ (
    .step ⟨(some 6), none, .faddr 3 (.tmp 1)⟩ (
    .step ⟨(some 7), none, .load false 1 (.tmp 6)⟩ (
    .step ⟨(some 8), none, .len (.tmp 7)⟩ (
    .step ⟨(some 9), none, .build [(.int .i64 0), (.int .i64 0)] [(0, 1, (.lit (.int .i64 0))), (1, 1, (.tmp 8))]⟩ (
    .step ⟨(some 10), none, .mkif 88 (.tmp 9)⟩ (
    .ev ⟨(some 5), none, .call (.fn 45) [(.tmp 4), (.lit (.bool true))]⟩ [⟨(some 8), none, .len (.tmp 7)⟩, ⟨(some 7), none, .load false 1 (.tmp 6)⟩, ⟨(some 6), none, .faddr 3 (.tmp 1)⟩] (
    .ev ⟨(some 11), none, .call (.fn 56) [(.tmp 5), (.tmp 10)]⟩ [⟨(some 8), none, .len (.tmp 7)⟩, ⟨(some 7), none, .load false 1 (.tmp 6)⟩, ⟨(some 6), none, .faddr 3 (.tmp 1)⟩, ⟨(some 4), none, .load true 5 (.tmp 1)⟩] (
     .ev ⟨none, none, .store 2 (.tmp 2) (.tmp 11)⟩ [] (
      .ev ⟨none, none, .store 1 (.tmp 3) (.lit (.int .i64 0))⟩ [] (
       .done)
       (.stop))
      (.stop))
     (.stop))
    (.stop)))))))))
 (.ret)))
theorem k21 : FnC Tryd.prog 21 12 [2, 3] [] [.cell 2 true 2, .cell 3 false 1] c21 1 := ⟨Tryd.f21, _, Tryd.func21, rfl, by decide, rfl, by decide, by kernel_rfl, by kernel_rfl⟩
def c23 : AC :=
 .seq (.reg [⟨(some 3), none, .box (.tmp 0)⟩,
    ⟨(some 6), none, .mov (.lit (.int .i64 0))⟩,
    ⟨(some 7), none, .alloc [(.int .i64 0)]⟩])
 (.seq (.reg [⟨none, none, .defer 44 [(.tmp 7)]⟩])
 (.seq (.draw (.step ⟨(some 9), none, .load true 5 (.tmp 3)⟩ (
    .step ⟨(some 10), none, .mov (.tmp 1)⟩ (
    .step ⟨(some 11), none, .faddr 3 (.tmp 3)⟩ (
    .step ⟨(some 12), none, .load false 1 (.tmp 11)⟩ (
    .step ⟨(some 13), none, .len (.tmp 12)⟩ (
    .step ⟨(some 14), none, .bin .sub (.tmp 13) (.lit (.int .i64 1))⟩ (
    .step ⟨(some 26), none, .mov (.tmp 1)⟩ (
    .step ⟨(some 27), none, .mov (.tmp 2)⟩ (
    .step ⟨(some 28), none, .build [(.int .i64 0), (.int .i64 0)] [(0, 1, (.tmp 26)), (1, 1, (.tmp 27))]⟩ (
    .step ⟨(some 29), none, .mkif 88 (.tmp 28)⟩ (
    .ev ⟨(some 15), none, .call (.fn 46) [(.tmp 10), (.lit (.int .i64 0)), (.tmp 14)]⟩ [⟨(some 13), none, .len (.tmp 12)⟩, ⟨(some 12), none, .load false 1 (.tmp 11)⟩, ⟨(some 11), none, .faddr 3 (.tmp 3)⟩, ⟨(some 9), none, .load true 5 (.tmp 3)⟩] (
    .step ⟨(some 16), none, .mov (.tmp 15)⟩ (
     .step ⟨(some 17), (some (16, true)), .mov (.tmp 2)⟩ (
     .step ⟨(some 18), (some (16, true)), .mov (.tmp 1)⟩ (
     .step ⟨(some 19), (some (16, true)), .bin .add (.tmp 18) (.lit (.int .i64 1))⟩ (
     .step ⟨(some 20), (some (16, true)), .faddr 3 (.tmp 3)⟩ (
     .step ⟨(some 21), (some (16, true)), .load false 1 (.tmp 20)⟩ (
     .step ⟨(some 22), (some (16, true)), .len (.tmp 21)⟩ (
     .ev ⟨(some 23), (some (16, true)), .call (.fn 46) [(.tmp 17), (.tmp 19), (.tmp 22)]⟩ [⟨(some 21), (some (16, true)), .load false 1 (.tmp 20)⟩, ⟨(some 20), (some (16, true)), .faddr 3 (.tmp 3)⟩, ⟨(some 13), none, .len (.tmp 12)⟩, ⟨(some 12), none, .load false 1 (.tmp 11)⟩, ⟨(some 11), none, .faddr 3 (.tmp 3)⟩, ⟨(some 9), none, .load true 5 (.tmp 3)⟩] (
     .step ⟨(some 24), none, .pick (.tmp 16) (.tmp 23) (.lit (.bool false))⟩ (
      .ev ⟨(some 25), none, .call (.fn 45) [(.tmp 9), (.tmp 24)]⟩ [⟨(some 22), (some (16, true)), .len (.tmp 21)⟩, ⟨(some 21), (some (16, true)), .load false 1 (.tmp 20)⟩, ⟨(some 20), (some (16, true)), .faddr 3 (.tmp 3)⟩, ⟨(some 13), none, .len (.tmp 12)⟩, ⟨(some 12), none, .load false 1 (.tmp 11)⟩, ⟨(some 11), none, .faddr 3 (.tmp 3)⟩] (
      .ev ⟨(some 30), none, .call (.fn 56) [(.tmp 25), (.tmp 29)]⟩ [⟨(some 22), (some (16, true)), .len (.tmp 21)⟩, ⟨(some 21), (some (16, true)), .load false 1 (.tmp 20)⟩, ⟨(some 20), (some (16, true)), .faddr 3 (.tmp 3)⟩, ⟨(some 13), none, .len (.tmp 12)⟩, ⟨(some 12), none, .load false 1 (.tmp 11)⟩, ⟨(some 11), none, .faddr 3 (.tmp 3)⟩, ⟨(some 9), none, .load true 5 (.tmp 3)⟩] (
       .ev ⟨(some 8), none, .alloc [(.int .i64 0), (.int .i64 0)]⟩ [⟨(some 22), (some (16, true)), .len (.tmp 21)⟩, ⟨(some 21), (some (16, true)), .load false 1 (.tmp 20)⟩, ⟨(some 20), (some (16, true)), .faddr 3 (.tmp 3)⟩, ⟨(some 13), none, .len (.tmp 12)⟩, ⟨(some 12), none, .load false 1 (.tmp 11)⟩, ⟨(some 11), none, .faddr 3 (.tmp 3)⟩, ⟨(some 9), none, .load true 5 (.tmp 3)⟩] (
        .ev ⟨none, none, .store 2 (.tmp 8) (.tmp 30)⟩ [] (
         .done)
         (.stop))
        (.stop))
       (.ev ⟨(some 8), none, .alloc [(.int .i64 0), (.int .i64 0)]⟩ [⟨(some 22), (some (16, true)), .len (.tmp 21)⟩, ⟨(some 21), (some (16, true)), .load false 1 (.tmp 20)⟩, ⟨(some 20), (some (16, true)), .faddr 3 (.tmp 3)⟩, ⟨(some 13), none, .len (.tmp 12)⟩, ⟨(some 12), none, .load false 1 (.tmp 11)⟩, ⟨(some 11), none, .faddr 3 (.tmp 3)⟩, ⟨(some 9), none, .load true 5 (.tmp 3)⟩] (
       .ev ⟨(some 30), none, .call (.fn 56) [(.tmp 25), (.tmp 29)]⟩ [⟨(some 22), (some (16, true)), .len (.tmp 21)⟩, ⟨(some 21), (some (16, true)), .load false 1 (.tmp 20)⟩, ⟨(some 20), (some (16, true)), .faddr 3 (.tmp 3)⟩, ⟨(some 13), none, .len (.tmp 12)⟩, ⟨(some 12), none, .load false 1 (.tmp 11)⟩, ⟨(some 11), none, .faddr 3 (.tmp 3)⟩, ⟨(some 9), none, .load true 5 (.tmp 3)⟩] (
        .ev ⟨none, none, .store 2 (.tmp 8) (.tmp 30)⟩ [] (
         .done)
         (.stop))
        (.stop))
       (.stop)))
      (.ev ⟨(some 8), none, .alloc [(.int .i64 0), (.int .i64 0)]⟩ [⟨(some 22), (some (16, true)), .len (.tmp 21)⟩, ⟨(some 21), (some (16, true)), .load false 1 (.tmp 20)⟩, ⟨(some 20), (some (16, true)), .faddr 3 (.tmp 3)⟩, ⟨(some 13), none, .len (.tmp 12)⟩, ⟨(some 12), none, .load false 1 (.tmp 11)⟩, ⟨(some 11), none, .faddr 3 (.tmp 3)⟩, ⟨(some 9), none, .load true 5 (.tmp 3)⟩] (
      .ev ⟨(some 25), none, .call (.fn 45) [(.tmp 9), (.tmp 24)]⟩ [⟨(some 22), (some (16, true)), .len (.tmp 21)⟩, ⟨(some 21), (some (16, true)), .load false 1 (.tmp 20)⟩, ⟨(some 20), (some (16, true)), .faddr 3 (.tmp 3)⟩, ⟨(some 13), none, .len (.tmp 12)⟩, ⟨(some 12), none, .load false 1 (.tmp 11)⟩, ⟨(some 11), none, .faddr 3 (.tmp 3)⟩] (
       .ev ⟨(some 30), none, .call (.fn 56) [(.tmp 25), (.tmp 29)]⟩ [⟨(some 22), (some (16, true)), .len (.tmp 21)⟩, ⟨(some 21), (some (16, true)), .load false 1 (.tmp 20)⟩, ⟨(some 20), (some (16, true)), .faddr 3 (.tmp 3)⟩, ⟨(some 13), none, .len (.tmp 12)⟩, ⟨(some 12), none, .load false 1 (.tmp 11)⟩, ⟨(some 11), none, .faddr 3 (.tmp 3)⟩, ⟨(some 9), none, .load true 5 (.tmp 3)⟩] (
        .ev ⟨none, none, .store 2 (.tmp 8) (.tmp 30)⟩ [] (
         .done)
         (.stop))
        (.stop))
       (.stop))
      (.stop))))
     (.ev ⟨(some 8), none, .alloc [(.int .i64 0), (.int .i64 0)]⟩ [⟨(some 22), (some (16, true)), .len (.tmp 21)⟩, ⟨(some 21), (some (16, true)), .load false 1 (.tmp 20)⟩, ⟨(some 20), (some (16, true)), .faddr 3 (.tmp 3)⟩, ⟨(some 13), none, .len (.tmp 12)⟩, ⟨(some 12), none, .load false 1 (.tmp 11)⟩, ⟨(some 11), none, .faddr 3 (.tmp 3)⟩, ⟨(some 9), none, .load true 5 (.tmp 3)⟩] (
     .ev ⟨(some 23), (some (16, true)), .call (.fn 46) [(.tmp 17), (.tmp 19), (.tmp 22)]⟩ [⟨(some 21), (some (16, true)), .load false 1 (.tmp 20)⟩, ⟨(some 20), (some (16, true)), .faddr 3 (.tmp 3)⟩, ⟨(some 13), none, .len (.tmp 12)⟩, ⟨(some 12), none, .load false 1 (.tmp 11)⟩, ⟨(some 11), none, .faddr 3 (.tmp 3)⟩, ⟨(some 9), none, .load true 5 (.tmp 3)⟩] (
      .step ⟨(some 24), none, .pick (.tmp 16) (.tmp 23) (.lit (.bool false))⟩ (
       .ev ⟨(some 25), none, .call (.fn 45) [(.tmp 9), (.tmp 24)]⟩ [⟨(some 22), (some (16, true)), .len (.tmp 21)⟩, ⟨(some 21), (some (16, true)), .load false 1 (.tmp 20)⟩, ⟨(some 20), (some (16, true)), .faddr 3 (.tmp 3)⟩, ⟨(some 13), none, .len (.tmp 12)⟩, ⟨(some 12), none, .load false 1 (.tmp 11)⟩, ⟨(some 11), none, .faddr 3 (.tmp 3)⟩] (
       .ev ⟨(some 30), none, .call (.fn 56) [(.tmp 25), (.tmp 29)]⟩ [⟨(some 22), (some (16, true)), .len (.tmp 21)⟩, ⟨(some 21), (some (16, true)), .load false 1 (.tmp 20)⟩, ⟨(some 20), (some (16, true)), .faddr 3 (.tmp 3)⟩, ⟨(some 13), none, .len (.tmp 12)⟩, ⟨(some 12), none, .load false 1 (.tmp 11)⟩, ⟨(some 11), none, .faddr 3 (.tmp 3)⟩, ⟨(some 9), none, .load true 5 (.tmp 3)⟩] (
        .ev ⟨none, none, .store 2 (.tmp 8) (.tmp 30)⟩ [] (
         .done)
         (.stop))
        (.stop))
       (.stop)))
      (.stop))
     (.stop))))))))))
    (.ev ⟨(some 8), none, .alloc [(.int .i64 0), (.int .i64 0)]⟩ [⟨(some 13), none, .len (.tmp 12)⟩, ⟨(some 12), none, .load false 1 (.tmp 11)⟩, ⟨(some 11), none, .faddr 3 (.tmp 3)⟩, ⟨(some 9), none, .load true 5 (.tmp 3)⟩] (
    .ev ⟨(some 15), none, .call (.fn 46) [(.tmp 10), (.lit (.int .i64 0)), (.tmp 14)]⟩ [⟨(some 13), none, .len (.tmp 12)⟩, ⟨(some 12), none, .load false 1 (.tmp 11)⟩, ⟨(some 11), none, .faddr 3 (.tmp 3)⟩, ⟨(some 9), none, .load true 5 (.tmp 3)⟩] (
     .step ⟨(some 16), none, .mov (.tmp 15)⟩ (
      .step ⟨(some 17), (some (16, true)), .mov (.tmp 2)⟩ (
      .step ⟨(some 18), (some (16, true)), .mov (.tmp 1)⟩ (
      .step ⟨(some 19), (some (16, true)), .bin .add (.tmp 18) (.lit (.int .i64 1))⟩ (
      .step ⟨(some 20), (some (16, true)), .faddr 3 (.tmp 3)⟩ (
      .step ⟨(some 21), (some (16, true)), .load false 1 (.tmp 20)⟩ (
      .step ⟨(some 22), (some (16, true)), .len (.tmp 21)⟩ (
      .ev ⟨(some 23), (some (16, true)), .call (.fn 46) [(.tmp 17), (.tmp 19), (.tmp 22)]⟩ [⟨(some 21), (some (16, true)), .load false 1 (.tmp 20)⟩, ⟨(some 20), (some (16, true)), .faddr 3 (.tmp 3)⟩, ⟨(some 13), none, .len (.tmp 12)⟩, ⟨(some 12), none, .load false 1 (.tmp 11)⟩, ⟨(some 11), none, .faddr 3 (.tmp 3)⟩, ⟨(some 9), none, .load true 5 (.tmp 3)⟩] (
      .step ⟨(some 24), none, .pick (.tmp 16) (.tmp 23) (.lit (.bool false))⟩ (
       .ev ⟨(some 25), none, .call (.fn 45) [(.tmp 9), (.tmp 24)]⟩ [⟨(some 22), (some (16, true)), .len (.tmp 21)⟩, ⟨(some 21), (some (16, true)), .load false 1 (.tmp 20)⟩, ⟨(some 20), (some (16, true)), .faddr 3 (.tmp 3)⟩, ⟨(some 13), none, .len (.tmp 12)⟩, ⟨(some 12), none, .load false 1 (.tmp 11)⟩, ⟨(some 11), none, .faddr 3 (.tmp 3)⟩] (
       .ev ⟨(some 30), none, .call (.fn 56) [(.tmp 25), (.tmp 29)]⟩ [⟨(some 22), (some (16, true)), .len (.tmp 21)⟩, ⟨(some 21), (some (16, true)), .load false 1 (.tmp 20)⟩, ⟨(some 20), (some (16, true)), .faddr 3 (.tmp 3)⟩, ⟨(some 13), none, .len (.tmp 12)⟩, ⟨(some 12), none, .load false 1 (.tmp 11)⟩, ⟨(some 11), none, .faddr 3 (.tmp 3)⟩, ⟨(some 9), none, .load true 5 (.tmp 3)⟩] (
        .ev ⟨none, none, .store 2 (.tmp 8) (.tmp 30)⟩ [] (
         .done)
         (.stop))
        (.stop))
       (.stop)))
      (.stop)))))))))
     (.stop))
    (.stop))))))))))))))
 (.seq (.block 0 (.seq (.reg [⟨(some 32), none, .faddr 0 (.tmp 8)⟩,
     ⟨(some 33), none, .load false 1 (.tmp 32)⟩,
     ⟨(some 34), none, .bin .gtr (.tmp 33) (.lit (.int .i64 0))⟩,
     ⟨(some 31), none, .mov (.tmp 34)⟩])
  (.cond (.tmp 31) (.seq (.reg [⟨(some 6), none, .mov (.lit (.int .i64 2))⟩,
      ⟨none, none, .store 1 (.tmp 7) (.lit (.int .i64 0))⟩])
   (.ret))
    (.seq (.reg [⟨(some 36), none, .faddr 1 (.tmp 8)⟩,
      ⟨(some 37), none, .load false 1 (.tmp 36)⟩,
      ⟨(some 38), none, .bin .eql (.tmp 37) (.lit (.int .i64 0))⟩,
      ⟨(some 35), none, .mov (.tmp 38)⟩])
   (.cond (.tmp 35) (.seq (.reg [⟨(some 6), none, .mov (.lit (.int .i64 0))⟩,
       ⟨none, none, .store 1 (.tmp 7) (.lit (.int .i64 0))⟩])
    (.ret))
     (.skip))))))
 (.seq (.reg [⟨(some 6), none, .mov (.lit (.int .i64 1))⟩,
    ⟨none, none, .store 1 (.tmp 7) (.lit (.int .i64 0))⟩])
 (.ret)))))
theorem k23 : FnC Tryd.prog 23 39 [6, 7] [] [.tmp 6, .cell 7 false 1] c23 3 := ⟨Tryd.f23, _, Tryd.func23, rfl, by decide, rfl, by decide, by kernel_rfl, by kernel_rfl⟩
def c25 : AC :=
 .seq (.reg [⟨(some 2), none, .box (.tmp 0)⟩,
    ⟨(some 4), none, .mov (.lit (.int .i64 0))⟩,
    ⟨(some 5), none, .alloc [(.int .i64 0)]⟩])
 (.seq (.reg [⟨none, none, .defer 44 [(.tmp 5)]⟩])
 (.seq (.draw (.step ⟨(some 10), none, .load true 5 (.tmp 2)⟩ (
    .step ⟨(some 11), none, .mov (.tmp 1)⟩ (
    .step ⟨(some 12), none, .faddr 3 (.tmp 2)⟩ (
    .step ⟨(some 13), none, .load false 1 (.tmp 12)⟩ (
    .step ⟨(some 14), none, .len (.tmp 13)⟩ (
    .step ⟨(some 15), none, .bin .sub (.tmp 14) (.lit (.int .i64 1))⟩ (
    .ev ⟨(some 16), none, .call (.fn 46) [(.tmp 11), (.lit (.int .i64 0)), (.tmp 15)]⟩ [⟨(some 14), none, .len (.tmp 13)⟩, ⟨(some 13), none, .load false 1 (.tmp 12)⟩, ⟨(some 12), none, .faddr 3 (.tmp 2)⟩, ⟨(some 10), none, .load true 5 (.tmp 2)⟩] (
    .ev ⟨(some 17), none, .call (.fn 45) [(.tmp 10), (.tmp 16)]⟩ [⟨(some 14), none, .len (.tmp 13)⟩, ⟨(some 13), none, .load false 1 (.tmp 12)⟩, ⟨(some 12), none, .faddr 3 (.tmp 2)⟩] (
     .step ⟨(some 6), none, .mov (.tmp 17)⟩ (
      .done))
     (.stop))
    (.stop)))))))))
 (.seq (.reg [⟨(some 19), none, .mov (.tmp 6)⟩,
    ⟨(some 20), none, .call (.fn 52) [(.tmp 19)]⟩,
    ⟨(some 18), none, .mov (.tmp 20)⟩,
    ⟨(some 21), none, .ext (.tmp 18) 0⟩,
    ⟨(some 22), none, .ext (.tmp 18) 1⟩,
    ⟨(some 7), none, .mov (.tmp 21)⟩,
    ⟨(some 8), none, .mov (.tmp 22)⟩])
 (.seq (.reg [⟨(some 23), none, .mov (.tmp 1)⟩,
    ⟨(some 24), none, .mov (.tmp 8)⟩,
    ⟨(some 25), none, .conv .u64 (.tmp 24)⟩,
    ⟨(some 26), none, .mov (.tmp 1)⟩,
    ⟨(some 27), none, .bin .shr (.tmp 25) (.tmp 26)⟩,
    ⟨(some 28), none, .un .xor (.tmp 27)⟩,
    ⟨(some 29), none, .call (.fn 60) [(.tmp 28)]⟩,
    ⟨(some 30), none, .bin .add (.tmp 23) (.tmp 29)⟩,
    ⟨(some 9), none, .mov (.tmp 30)⟩])
 (.seq (.reg [⟨(some 31), none, .mov (.tmp 9)⟩,
    ⟨(some 32), none, .faddr 3 (.tmp 2)⟩,
    ⟨(some 33), none, .load false 1 (.tmp 32)⟩,
    ⟨(some 34), none, .len (.tmp 33)⟩,
    ⟨(some 35), none, .bin .lss (.tmp 31) (.tmp 34)⟩,
    ⟨(some 36), none, .call (.fn 50) [(.tmp 35), (.lit (.int .i64 4))]⟩])
 (.seq (.reg [⟨(some 37), none, .mov (.tmp 9)⟩,
    ⟨(some 4), none, .mov (.tmp 37)⟩,
    ⟨none, none, .store 1 (.tmp 5) (.lit (.int .i64 0))⟩])
 (.ret)))))))
theorem k25 : FnC Tryd.prog 25 38 [4, 5] [] [.tmp 4, .cell 5 false 1] c25 2 := ⟨Tryd.f25, _, Tryd.func25, rfl, by decide, rfl, by decide, by kernel_rfl, by kernel_rfl⟩
def c27 : AC :=
 .seq (.reg [⟨(some 1), none, .box (.tmp 0)⟩,
    ⟨(some 2), none, .mov (.lit (.int .i64 0))⟩,
    ⟨(some 3), none, .mov (.lit (.int .i64 0))⟩,
    ⟨(some 4), none, .alloc [(.int .i64 0)]⟩])
 (.seq (.reg [⟨none, none, .defer 44 [(.tmp 4)]⟩])
 (.seq (.reg [⟨(some 11), none, .load true 5 (.tmp 1)⟩,
    ⟨(some 12), none, .call (.fn 45) [(.tmp 11), (.lit (.bool true))]⟩,
    ⟨(some 5), none, .mov (.tmp 12)⟩])
 (.seq (.reg [⟨(some 13), none, .mov (.tmp 5)⟩,
    ⟨(some 14), none, .call (.fn 51) [(.tmp 13)]⟩,
    ⟨(some 6), none, .mov (.tmp 14)⟩])
 (.seq (.reg [⟨(some 15), none, .mov (.tmp 6)⟩,
    ⟨(some 16), none, .bin .gtr (.tmp 15) (.lit (.int .i64 0))⟩,
    ⟨(some 17), none, .call (.fn 50) [(.tmp 16), (.lit (.int .i64 10))]⟩])
 (.seq (.reg [⟨(some 18), none, .mov (.tmp 6)⟩,
    ⟨(some 19), none, .bin .gtr (.tmp 18) (.lit (.int .i64 1))⟩,
    ⟨(some 20), none, .call (.fn 50) [(.tmp 19), (.lit (.int .i64 11))]⟩])
 (.seq (.reg [⟨(some 21), none, .mov (.tmp 6)⟩,
    ⟨(some 22), none, .bin .add (.tmp 21) (.lit (.int .i64 1))⟩,
    ⟨(some 7), none, .mov (.lit (.int .i64 0))⟩,
    ⟨(some 8), none, .mov (.tmp 22)⟩])
 (.seq (.seq (.reg [⟨(some 23), none, .faddr 3 (.tmp 1)⟩,
     ⟨(some 24), none, .load false 1 (.tmp 23)⟩,
     ⟨(some 25), none, .len (.tmp 24)⟩,
     ⟨(some 26), none, .mov (.lit (.int .i64 0))⟩])
  (.block 0 (.loop (.seq (.reg [⟨(some 27), none, .bin .lss (.tmp 26) (.tmp 25)⟩])
   (.seq (.cond (.tmp 27) (.skip)
      (.exit 0))
   (.seq (.block 1 (.seq (.reg [⟨(some 28), none, .mov (.tmp 26)⟩,
       ⟨(some 9), none, .mov (.tmp 28)⟩])
    (.seq (.reg [⟨(some 29), none, .mov (.tmp 5)⟩,
       ⟨(some 30), none, .mov (.tmp 9)⟩,
       ⟨(some 31), none, .build [(.int .i64 0), (.int .i64 0)] [(0, 1, (.tmp 30)), (1, 1, (.lit (.int .i64 0)))]⟩,
       ⟨(some 32), none, .mkif 96 (.tmp 31)⟩,
       ⟨(some 33), none, .call (.fn 62) [(.tmp 29), (.tmp 32)]⟩,
       ⟨(some 34), none, .mov (.tmp 5)⟩,
       ⟨(some 35), none, .mov (.tmp 9)⟩,
       ⟨(some 36), none, .build [(.int .i64 0), (.int .i64 0)] [(0, 1, (.tmp 35)), (1, 1, (.lit (.int .i64 1)))]⟩,
       ⟨(some 37), none, .mkif 96 (.tmp 36)⟩,
       ⟨(some 38), none, .call (.fn 62) [(.tmp 34), (.tmp 37)]⟩,
       ⟨(some 39), none, .mov (.tmp 5)⟩,
       ⟨(some 40), none, .mov (.tmp 9)⟩,
       ⟨(some 41), none, .build [(.int .i64 0), (.int .i64 0)] [(0, 1, (.tmp 40)), (1, 1, (.lit (.int .i64 2)))]⟩,
       ⟨(some 42), none, .mkif 96 (.tmp 41)⟩,
       ⟨(some 43), none, .call (.fn 62) [(.tmp 39), (.tmp 42)]⟩,
       ⟨(some 44), none, .bslice 1 (.int .i64 0) 3 [(0, (.tmp 33)), (1, (.tmp 38)), (2, (.tmp 43))]⟩,
       ⟨(some 45), none, .call (.fn 61) [(.tmp 44)]⟩,
       ⟨(some 10), none, .mov (.tmp 45)⟩])
    (.seq (.reg [⟨(some 46), none, .mov (.tmp 10)⟩,
       ⟨(some 47), none, .mov (.tmp 8)⟩,
       ⟨(some 48), none, .bin .lss (.tmp 46) (.tmp 47)⟩])
    (.cond (.tmp 48) (.reg [⟨(some 49), none, .mov (.tmp 9)⟩,
       ⟨(some 50), none, .mov (.tmp 10)⟩,
       ⟨(some 7), none, .mov (.tmp 49)⟩,
       ⟨(some 8), none, .mov (.tmp 50)⟩])
      (.skip))))))
   (.reg [⟨(some 51), none, .bin .add (.tmp 26) (.lit (.int .i64 1))⟩,
     ⟨(some 26), none, .mov (.tmp 51)⟩])))))))
 (.seq (.reg [⟨(some 52), none, .mov (.tmp 7)⟩,
    ⟨(some 53), none, .mov (.tmp 8)⟩,
    ⟨(some 2), none, .mov (.tmp 52)⟩,
    ⟨(some 3), none, .mov (.tmp 53)⟩,
    ⟨none, none, .store 1 (.tmp 4) (.lit (.int .i64 0))⟩])
 (.ret)))))))))
theorem k27 : FnC Tryd.prog 27 54 [2, 3, 4] [] [.tmp 2, .tmp 3, .cell 4 false 1] c27 1 := ⟨Tryd.f27, _, Tryd.func27, rfl, by decide, rfl, by decide, by kernel_rfl, by kernel_rfl⟩
def c44 : AC :=
 .seq (.reg [⟨(some 6), none, .mov (.tmp 2)⟩,
    ⟨(some 7), none, .nilcmp true (.tmp 6)⟩])
 (.cond (.tmp 7) (.seq (.reg [⟨(some 9), none, .mov (.tmp 2)⟩,
     ⟨(some 10), none, .tass 104 true (.tmp 9)⟩,
     ⟨(some 8), none, .mov (.tmp 10)⟩,
     ⟨(some 11), none, .ext (.tmp 8) 0⟩,
     ⟨(some 12), none, .ext (.tmp 8) 1⟩,
     ⟨(some 3), none, .mov (.tmp 11)⟩,
     ⟨(some 4), none, .mov (.tmp 12)⟩])
  (.seq (.seq (.reg [⟨(some 13), none, .mov (.tmp 4)⟩,
      ⟨(some 14), none, .un .not (.tmp 13)⟩])
   (.cond (.tmp 14) (.reg [⟨(some 15), none, .mov (.tmp 2)⟩,
      ⟨none, none, .pan (.tmp 15)⟩])
     (.skip)))
  (.reg [⟨(some 16), none, .mov (.tmp 0)⟩,
    ⟨(some 17), none, .mov (.tmp 3)⟩,
    ⟨(some 18), none, .nilck (.tmp 16)⟩,
    ⟨none, none, .store 1 (.tmp 18) (.tmp 17)⟩])))
   (.skip))
theorem a44 : FnA Tryd.prog 44 19 5 2 c44 1 := ⟨Tryd.f44, _, _, _, _, _, Tryd.func44, rfl, by decide, rfl, by decide, rfl, rfl, rfl, rfl, rfl, rfl, rfl, by decide, by decide, by kernel_rfl⟩
def c45 : AC :=
 .seq (.reg [⟨(some 2), none, .box (.tmp 0)⟩,
    ⟨(some 4), none, .mov (.lit (.pointer none))⟩])
 (.seq (.reg [⟨(some 12), none, .faddr 0 (.tmp 2)⟩,
    ⟨(some 13), none, .load false 1 (.tmp 12)⟩,
    ⟨(some 14), none, .bin .leq (.lit (.int .i64 1)) (.tmp 13)⟩,
    ⟨(some 15), none, .mov (.tmp 14)⟩,
    ⟨(some 16), (some (15, true)), .faddr 0 (.tmp 2)⟩,
    ⟨(some 17), (some (15, true)), .load false 1 (.tmp 16)⟩,
    ⟨(some 18), (some (15, true)), .faddr 1 (.tmp 2)⟩,
    ⟨(some 19), (some (15, true)), .load false 1 (.tmp 18)⟩,
    ⟨(some 20), (some (15, true)), .bin .leq (.tmp 17) (.tmp 19)⟩,
    ⟨(some 21), none, .pick (.tmp 15) (.tmp 20) (.lit (.bool false))⟩,
    ⟨(some 22), none, .mov (.tmp 21)⟩,
    ⟨(some 23), (some (22, true)), .faddr 1 (.tmp 2)⟩,
    ⟨(some 24), (some (22, true)), .load false 1 (.tmp 23)⟩,
    ⟨(some 25), (some (22, true)), .bin .leq (.tmp 24) (.lit (.int .i64 12))⟩,
    ⟨(some 26), none, .pick (.tmp 22) (.tmp 25) (.lit (.bool false))⟩,
    ⟨(some 27), none, .mov (.tmp 26)⟩,
    ⟨(some 28), (some (27, true)), .faddr 2 (.tmp 2)⟩,
    ⟨(some 29), (some (27, true)), .load false 1 (.tmp 28)⟩,
    ⟨(some 30), (some (27, true)), .call (.fn 46) [(.tmp 29), (.lit (.int .i64 1)), (.lit (.int .i64 4))]⟩,
    ⟨(some 31), none, .pick (.tmp 27) (.tmp 30) (.lit (.bool false))⟩,
    ⟨(some 32), none, .mov (.tmp 31)⟩,
    ⟨(some 33), (some (32, true)), .faddr 3 (.tmp 2)⟩,
    ⟨(some 34), (some (32, true)), .load false 1 (.tmp 33)⟩,
    ⟨(some 35), (some (32, true)), .len (.tmp 34)⟩,
    ⟨(some 36), (some (32, true)), .bin .leq (.tmp 35) (.lit (.int .i64 9))⟩,
    ⟨(some 37), none, .pick (.tmp 32) (.tmp 36) (.lit (.bool false))⟩,
    ⟨(some 38), none, .mov (.tmp 37)⟩,
    ⟨(some 39), (some (38, true)), .faddr 4 (.tmp 2)⟩,
    ⟨(some 40), (some (38, true)), .load false 1 (.tmp 39)⟩,
    ⟨(some 41), (some (38, true)), .len (.tmp 40)⟩,
    ⟨(some 42), (some (38, true)), .bin .leq (.tmp 41) (.lit (.int .i64 8))⟩,
    ⟨(some 43), none, .pick (.tmp 38) (.tmp 42) (.lit (.bool false))⟩,
    ⟨(some 44), none, .call (.fn 50) [(.tmp 43), (.lit (.int .i64 1))]⟩])
 (.seq (.seq (.reg [⟨(some 45), none, .faddr 3 (.tmp 2)⟩,
     ⟨(some 46), none, .load false 1 (.tmp 45)⟩,
     ⟨(some 47), none, .len (.tmp 46)⟩,
     ⟨(some 48), none, .mov (.lit (.int .i64 0))⟩])
  (.block 0 (.loop (.seq (.reg [⟨(some 49), none, .bin .lss (.tmp 48) (.tmp 47)⟩])
   (.seq (.cond (.tmp 49) (.skip)
      (.exit 0))
   (.seq (.block 1 (.seq (.reg [⟨(some 50), none, .iaddr 3 (.tmp 46) (.tmp 48)⟩,
       ⟨(some 51), none, .load true 3 (.tmp 50)⟩,
       ⟨(some 6), none, .alloc [(.int .i64 0), (.int .i64 0), (.int .i64 0)]⟩,
       ⟨none, none, .store 3 (.tmp 6) (.tmp 51)⟩])
    (.reg [⟨(some 52), none, .faddr 0 (.tmp 6)⟩,
      ⟨(some 53), none, .faddr 0 (.tmp 52)⟩,
      ⟨(some 54), none, .load false 1 (.tmp 53)⟩,
      ⟨(some 55), none, .bin .leq (.lit (.int .i64 0)) (.tmp 54)⟩,
      ⟨(some 56), none, .mov (.tmp 55)⟩,
      ⟨(some 57), (some (56, true)), .faddr 0 (.tmp 6)⟩,
      ⟨(some 58), (some (56, true)), .faddr 0 (.tmp 57)⟩,
      ⟨(some 59), (some (56, true)), .load false 1 (.tmp 58)⟩,
      ⟨(some 60), (some (56, true)), .faddr 0 (.tmp 6)⟩,
      ⟨(some 61), (some (56, true)), .faddr 1 (.tmp 60)⟩,
      ⟨(some 62), (some (56, true)), .load false 1 (.tmp 61)⟩,
      ⟨(some 63), (some (56, true)), .bin .leq (.tmp 59) (.tmp 62)⟩,
      ⟨(some 64), none, .pick (.tmp 56) (.tmp 63) (.lit (.bool false))⟩,
      ⟨(some 65), none, .mov (.tmp 64)⟩,
      ⟨(some 66), (some (65, true)), .faddr 0 (.tmp 6)⟩,
      ⟨(some 67), (some (65, true)), .faddr 1 (.tmp 66)⟩,
      ⟨(some 68), (some (65, true)), .load false 1 (.tmp 67)⟩,
      ⟨(some 69), (some (65, true)), .bin .leq (.tmp 68) (.lit (.int .i64 12))⟩,
      ⟨(some 70), none, .pick (.tmp 65) (.tmp 69) (.lit (.bool false))⟩,
      ⟨(some 71), none, .mov (.tmp 70)⟩,
      ⟨(some 72), (some (71, true)), .faddr 2 (.tmp 6)⟩,
      ⟨(some 73), (some (71, true)), .load false 1 (.tmp 72)⟩,
      ⟨(some 74), (some (71, true)), .call (.fn 46) [(.tmp 73), (.lit (.int .i64 0)), (.lit (.int .i64 2))]⟩,
      ⟨(some 75), none, .pick (.tmp 71) (.tmp 74) (.lit (.bool false))⟩,
      ⟨(some 76), none, .call (.fn 50) [(.tmp 75), (.lit (.int .i64 1))]⟩])))
   (.reg [⟨(some 77), none, .bin .add (.tmp 48) (.lit (.int .i64 1))⟩,
     ⟨(some 48), none, .mov (.tmp 77)⟩])))))))
 (.seq (.seq (.reg [⟨(some 78), none, .faddr 4 (.tmp 2)⟩,
     ⟨(some 79), none, .load false 1 (.tmp 78)⟩,
     ⟨(some 80), none, .len (.tmp 79)⟩,
     ⟨(some 81), none, .mov (.lit (.int .i64 0))⟩])
  (.block 2 (.loop (.seq (.reg [⟨(some 82), none, .bin .lss (.tmp 81) (.tmp 80)⟩])
   (.seq (.cond (.tmp 82) (.skip)
      (.exit 2))
   (.seq (.block 3 (.seq (.reg [⟨(some 83), none, .iaddr 2 (.tmp 79) (.tmp 81)⟩,
       ⟨(some 84), none, .load true 2 (.tmp 83)⟩,
       ⟨(some 8), none, .alloc [(.int .i64 0), (.bool false)]⟩,
       ⟨none, none, .store 2 (.tmp 8) (.tmp 84)⟩])
    (.reg [⟨(some 85), none, .faddr 0 (.tmp 8)⟩,
      ⟨(some 86), none, .load false 1 (.tmp 85)⟩,
      ⟨(some 87), none, .faddr 3 (.tmp 2)⟩,
      ⟨(some 88), none, .load false 1 (.tmp 87)⟩,
      ⟨(some 89), none, .len (.tmp 88)⟩,
      ⟨(some 90), none, .bin .sub (.tmp 89) (.lit (.int .i64 1))⟩,
      ⟨(some 91), none, .call (.fn 46) [(.tmp 86), (.lit (.int .i64 0)), (.tmp 90)]⟩,
      ⟨(some 92), none, .call (.fn 50) [(.tmp 91), (.lit (.int .i64 1))]⟩])))
   (.reg [⟨(some 93), none, .bin .add (.tmp 81) (.lit (.int .i64 1))⟩,
     ⟨(some 81), none, .mov (.tmp 93)⟩])))))))
 (.seq (.reg [⟨(some 94), none, .mov (.tmp 1)⟩,
    ⟨(some 95), none, .call (.fn 50) [(.tmp 94), (.lit (.int .i64 2))]⟩])
 (.seq (.reg [⟨(some 96), none, .load true 5 (.tmp 2)⟩,
    ⟨(some 97), none, .build [(.int .i64 0), (.int .i64 0), (.int .i64 0), (.slice none 0 0), (.slice none 0 0), (.int .i64 0), (.int .i64 0), (.int .i64 0), (.int .i64 0), (.int .i64 0), (.int .i64 0), (.int .i64 0), (.int .i64 0), (.int .i64 0), (.bool false), (.bool false), (.bool false), (.bool false), (.bool false), (.bool false), (.bool false), (.bool false), (.bool false), (.bool false), (.bool false), (.bool false), (.bool false), (.bool false), (.bool false), (.bool false), (.bool false), (.bool false)] [(0, 5, (.tmp 96))]⟩,
    ⟨(some 98), none, .box (.tmp 97)⟩,
    ⟨(some 9), none, .mov (.tmp 98)⟩])
 (.seq (.seq (.reg [⟨(some 99), none, .faddr 3 (.tmp 2)⟩,
     ⟨(some 100), none, .load false 1 (.tmp 99)⟩,
     ⟨(some 101), none, .len (.tmp 100)⟩,
     ⟨(some 102), none, .mov (.lit (.int .i64 0))⟩])
  (.block 4 (.loop (.seq (.reg [⟨(some 103), none, .bin .lss (.tmp 102) (.tmp 101)⟩])
   (.seq (.cond (.tmp 103) (.skip)
      (.exit 4))
   (.seq (.block 5 (.seq (.reg [⟨(some 104), none, .mov (.tmp 102)⟩,
       ⟨(some 105), none, .iaddr 3 (.tmp 100) (.tmp 102)⟩,
       ⟨(some 106), none, .load true 3 (.tmp 105)⟩,
       ⟨(some 11), none, .alloc [(.int .i64 0), (.int .i64 0), (.int .i64 0)]⟩,
       ⟨(some 10), none, .mov (.tmp 104)⟩,
       ⟨none, none, .store 3 (.tmp 11) (.tmp 106)⟩])
    (.draw (.step ⟨(some 107), none, .mov (.tmp 9)⟩ (
      .step ⟨(some 108), none, .mov (.tmp 10)⟩ (
      .step ⟨(some 109), none, .mov (.tmp 9)⟩ (
      .step ⟨(some 110), none, .mov (.tmp 10)⟩ (
      .step ⟨(some 111), none, .mov (.tmp 9)⟩ (
      .step ⟨(some 112), none, .mov (.tmp 10)⟩ (
      .step ⟨(some 113), none, .load true 5 (.tmp 2)⟩ (
      .step ⟨(some 114), none, .load true 3 (.tmp 11)⟩ (
      .step ⟨(some 116), none, .nilck (.tmp 107)⟩ (
      .step ⟨(some 117), none, .faddr 5 (.tmp 116)⟩ (
      .step ⟨(some 118), none, .faddr 0 (.tmp 117)⟩ (
      .step ⟨(some 120), none, .nilck (.tmp 109)⟩ (
      .step ⟨(some 121), none, .faddr 5 (.tmp 120)⟩ (
      .step ⟨(some 122), none, .faddr 9 (.tmp 121)⟩ (
      .step ⟨(some 124), none, .nilck (.tmp 111)⟩ (
      .step ⟨(some 125), none, .faddr 5 (.tmp 124)⟩ (
      .step ⟨(some 126), none, .faddr 18 (.tmp 125)⟩ (
      .ev ⟨(some 115), none, .call (.fn 69) [(.tmp 113), (.tmp 114)]⟩ [⟨(some 126), none, .faddr 18 (.tmp 125)⟩, ⟨(some 125), none, .faddr 5 (.tmp 124)⟩, ⟨(some 124), none, .nilck (.tmp 111)⟩, ⟨(some 122), none, .faddr 9 (.tmp 121)⟩, ⟨(some 121), none, .faddr 5 (.tmp 120)⟩, ⟨(some 120), none, .nilck (.tmp 109)⟩, ⟨(some 118), none, .faddr 0 (.tmp 117)⟩, ⟨(some 117), none, .faddr 5 (.tmp 116)⟩, ⟨(some 116), none, .nilck (.tmp 107)⟩] (
      .step ⟨(some 119), none, .iaddrA 9 1 (.tmp 118) (.tmp 108)⟩ (
       .ev ⟨none, none, .store 1 (.tmp 119) (.tmp 115)⟩ [⟨(some 126), none, .faddr 18 (.tmp 125)⟩, ⟨(some 125), none, .faddr 5 (.tmp 124)⟩, ⟨(some 124), none, .nilck (.tmp 111)⟩, ⟨(some 122), none, .faddr 9 (.tmp 121)⟩, ⟨(some 121), none, .faddr 5 (.tmp 120)⟩, ⟨(some 120), none, .nilck (.tmp 109)⟩, ⟨(some 118), none, .faddr 0 (.tmp 117)⟩, ⟨(some 117), none, .faddr 5 (.tmp 116)⟩, ⟨(some 116), none, .nilck (.tmp 107)⟩] (
       .step ⟨(some 123), none, .iaddrA 9 1 (.tmp 122) (.tmp 110)⟩ (
        .ev ⟨none, none, .store 1 (.tmp 123) (.lit (.bool true))⟩ [⟨(some 126), none, .faddr 18 (.tmp 125)⟩, ⟨(some 125), none, .faddr 5 (.tmp 124)⟩, ⟨(some 124), none, .nilck (.tmp 111)⟩, ⟨(some 122), none, .faddr 9 (.tmp 121)⟩, ⟨(some 121), none, .faddr 5 (.tmp 120)⟩, ⟨(some 120), none, .nilck (.tmp 109)⟩] (
        .step ⟨(some 127), none, .iaddrA 9 1 (.tmp 126) (.tmp 112)⟩ (
         .ev ⟨none, none, .store 1 (.tmp 127) (.lit (.bool true))⟩ [⟨(some 126), none, .faddr 18 (.tmp 125)⟩, ⟨(some 125), none, .faddr 5 (.tmp 124)⟩, ⟨(some 124), none, .nilck (.tmp 111)⟩] (
         .done)
         (.stop)))
        (.stop)))
       (.stop)))
      (.stop))))))))))))))))))))))
   (.reg [⟨(some 128), none, .bin .add (.tmp 102) (.lit (.int .i64 1))⟩,
     ⟨(some 102), none, .mov (.tmp 128)⟩])))))))
 (.seq (.reg [⟨(some 129), none, .mov (.tmp 9)⟩,
    ⟨(some 130), none, .faddr 4 (.tmp 2)⟩,
    ⟨(some 131), none, .load false 1 (.tmp 130)⟩,
    ⟨(some 132), none, .call (.fn 70) [(.tmp 129), (.tmp 131)]⟩])
 (.seq (.reg [⟨(some 133), none, .mov (.tmp 9)⟩,
    ⟨(some 4), none, .mov (.tmp 133)⟩])
 (.ret)))))))))
theorem k45 : FnC Tryd.prog 45 134 [] [] [.tmp 4] c45 2 := ⟨Tryd.f45, _, Tryd.func45, rfl, by decide, rfl, by decide, by kernel_rfl, by kernel_rfl⟩
def c46 : AC :=
 .seq (.reg [⟨(some 6), none, .mov (.lit (.bool false))⟩])
 (.seq (.reg [⟨(some 7), none, .mov (.tmp 1)⟩,
    ⟨(some 8), none, .mov (.tmp 0)⟩,
    ⟨(some 9), none, .bin .leq (.tmp 7) (.tmp 8)⟩,
    ⟨(some 10), none, .mov (.tmp 9)⟩,
    ⟨(some 11), (some (10, true)), .mov (.tmp 0)⟩,
    ⟨(some 12), (some (10, true)), .mov (.tmp 2)⟩,
    ⟨(some 13), (some (10, true)), .bin .leq (.tmp 11) (.tmp 12)⟩,
    ⟨(some 14), none, .pick (.tmp 10) (.tmp 13) (.lit (.bool false))⟩,
    ⟨(some 6), none, .mov (.tmp 14)⟩])
 (.ret))
theorem k46 : FnC Tryd.prog 46 15 [] [] [.tmp 6] c46 3 := ⟨Tryd.f46, _, Tryd.func46, rfl, by decide, rfl, by decide, by kernel_rfl, by kernel_rfl⟩
def c50 : AC :=
 .seq (.reg [⟨(some 4), none, .mov (.tmp 0)⟩,
    ⟨(some 5), none, .un .not (.tmp 4)⟩])
 (.cond (.tmp 5) (.reg [⟨(some 6), none, .mov (.tmp 1)⟩,
    ⟨(some 7), none, .mkif 104 (.tmp 6)⟩,
    ⟨none, none, .pan (.tmp 7)⟩])
   (.skip))
theorem k50 : FnC Tryd.prog 50 8 [] [] [] c50 2 := ⟨Tryd.f50, _, Tryd.func50, rfl, by decide, rfl, by decide, by kernel_rfl, by kernel_rfl⟩
def c51 : AC :=
 .seq (.reg [⟨(some 2), none, .mov (.lit (.int .i64 0))⟩])
 (.seq (.reg [⟨(some 3), none, .mov (.tmp 0)⟩,
    ⟨(some 4), none, .build [(.int .i64 0), (.int .i64 0)] [(0, 1, (.lit (.int .i64 (-1)))), (1, 1, (.lit (.int .i64 0)))]⟩,
    ⟨(some 5), none, .mkif 96 (.tmp 4)⟩,
    ⟨(some 6), none, .call (.fn 62) [(.tmp 3), (.tmp 5)]⟩,
    ⟨(some 2), none, .mov (.tmp 6)⟩])
 (.ret))
theorem k51 : FnC Tryd.prog 51 7 [] [] [.tmp 2] c51 1 := ⟨Tryd.f51, _, Tryd.func51, rfl, by decide, rfl, by decide, by kernel_rfl, by kernel_rfl⟩
def c52 : AC :=
 .seq (.reg [⟨(some 2), none, .mov (.lit (.int .i64 0))⟩,
    ⟨(some 3), none, .mov (.lit (.int .i64 0))⟩])
 (.seq (.seq (.reg [⟨(some 6), none, .mov (.tmp 0)⟩,
     ⟨(some 7), none, .nilck (.tmp 6)⟩,
     ⟨(some 8), none, .faddr 0 (.tmp 7)⟩,
     ⟨(some 9), none, .faddr 3 (.tmp 8)⟩,
     ⟨(some 10), none, .load false 1 (.tmp 9)⟩,
     ⟨(some 11), none, .len (.tmp 10)⟩,
     ⟨(some 12), none, .mov (.lit (.int .i64 0))⟩])
  (.block 0 (.loop (.seq (.reg [⟨(some 13), none, .bin .lss (.tmp 12) (.tmp 11)⟩])
   (.seq (.cond (.tmp 13) (.skip)
      (.exit 0))
   (.seq (.block 1 (.seq (.reg [⟨(some 14), none, .mov (.tmp 12)⟩,
       ⟨(some 4), none, .mov (.tmp 14)⟩])
    (.seq (.reg [⟨(some 15), none, .mov (.tmp 0)⟩,
       ⟨(some 16), none, .mov (.tmp 4)⟩,
       ⟨(some 17), none, .mov (.tmp 4)⟩,
       ⟨(some 18), none, .bin .add (.tmp 17) (.lit (.int .i64 1))⟩,
       ⟨(some 19), none, .build [(.int .i64 0), (.int .i64 0)] [(0, 1, (.tmp 16)), (1, 1, (.tmp 18))]⟩,
       ⟨(some 20), none, .mkif 88 (.tmp 19)⟩,
       ⟨(some 21), none, .call (.fn 56) [(.tmp 15), (.tmp 20)]⟩,
       ⟨(some 5), none, .alloc [(.int .i64 0), (.int .i64 0)]⟩,
       ⟨none, none, .store 2 (.tmp 5) (.tmp 21)⟩])
    (.seq (.reg [⟨(some 22), none, .mov (.tmp 2)⟩,
       ⟨(some 23), none, .faddr 0 (.tmp 5)⟩,
       ⟨(some 24), none, .load false 1 (.tmp 23)⟩,
       ⟨(some 25), none, .mov (.tmp 4)⟩,
       ⟨(some 26), none, .bin .shl (.tmp 24) (.tmp 25)⟩,
       ⟨(some 27), none, .bin .or (.tmp 22) (.tmp 26)⟩,
       ⟨(some 2), none, .mov (.tmp 27)⟩])
    (.reg [⟨(some 28), none, .mov (.tmp 3)⟩,
      ⟨(some 29), none, .faddr 1 (.tmp 5)⟩,
      ⟨(some 30), none, .load false 1 (.tmp 29)⟩,
      ⟨(some 31), none, .mov (.tmp 4)⟩,
      ⟨(some 32), none, .bin .shl (.tmp 30) (.tmp 31)⟩,
      ⟨(some 33), none, .bin .or (.tmp 28) (.tmp 32)⟩,
      ⟨(some 3), none, .mov (.tmp 33)⟩])))))
   (.reg [⟨(some 34), none, .bin .add (.tmp 12) (.lit (.int .i64 1))⟩,
     ⟨(some 12), none, .mov (.tmp 34)⟩])))))))
 (.seq (.reg [⟨(some 35), none, .mov (.tmp 2)⟩,
    ⟨(some 36), none, .mov (.tmp 3)⟩,
    ⟨(some 2), none, .mov (.tmp 35)⟩,
    ⟨(some 3), none, .mov (.tmp 36)⟩])
 (.ret)))
theorem k52 : FnC Tryd.prog 52 37 [] [] [.tmp 2, .tmp 3] c52 1 := ⟨Tryd.f52, _, Tryd.func52, rfl, by decide, rfl, by decide, by kernel_rfl, by kernel_rfl⟩
def c56 : AC :=
 .seq (.reg [⟨(some 3), none, .box (.tmp 1)⟩,
    ⟨(some 4), none, .alloc [(.int .i64 0), (.int .i64 0)]⟩])
 (.seq (.reg [⟨(some 8), none, .mov (.tmp 0)⟩,
    ⟨(some 9), none, .build [(.int .i64 0), (.int .i64 0)] []⟩,
    ⟨(some 10), none, .mkfn (.func 73) [] [(.tmp 3)]⟩,
    ⟨(some 11), none, .build [(.int .i64 0), (.int .i64 0), .nilFunc, .nilFunc] [(0, 2, (.tmp 9)), (2, 1, (.tmp 10)), (3, 1, (.fn 74))]⟩,
    ⟨(some 12), none, .call (.fn 72) [(.tmp 8), (.tmp 11)]⟩,
    ⟨(some 7), none, .mov (.tmp 12)⟩,
    ⟨(some 13), none, .ext (.tmp 7) 0⟩,
    ⟨(some 14), none, .ext (.tmp 7) 1⟩,
    ⟨(some 5), none, .alloc [(.int .i64 0), (.int .i64 0)]⟩,
    ⟨none, none, .store 2 (.tmp 5) (.tmp 13)⟩,
    ⟨(some 6), none, .mov (.tmp 14)⟩])
 (.seq (.reg [⟨(some 15), none, .mov (.tmp 6)⟩,
    ⟨(some 16), none, .call (.fn 50) [(.tmp 15), (.lit (.int .i64 10))]⟩])
 (.seq (.reg [⟨(some 17), none, .load true 2 (.tmp 5)⟩,
    ⟨none, none, .store 2 (.tmp 4) (.tmp 17)⟩])
 (.ret))))
theorem k56 : FnC Tryd.prog 56 18 [4] [] [.cell 4 true 2] c56 2 := ⟨Tryd.f56, _, Tryd.func56, rfl, by decide, rfl, by decide, by kernel_rfl, by kernel_rfl⟩
def c60 : AC :=
 .seq (.reg [⟨(some 2), none, .mov (.lit (.int .i64 0))⟩])
 (.seq (.cond (.lit (.bool false)) (.seq (.reg [⟨(some 3), none, .mov (.tmp 0)⟩,
      ⟨(some 4), none, .conv .u32 (.tmp 3)⟩,
      ⟨(some 5), none, .call (.fn 75) [(.tmp 4)]⟩,
      ⟨(some 2), none, .mov (.tmp 5)⟩])
   (.ret))
    (.skip))
 (.seq (.reg [⟨(some 6), none, .mov (.tmp 0)⟩,
    ⟨(some 7), none, .call (.fn 76) [(.tmp 6)]⟩,
    ⟨(some 2), none, .mov (.tmp 7)⟩])
 (.ret)))
theorem k60 : FnC Tryd.prog 60 8 [] [] [.tmp 2] c60 1 := ⟨Tryd.f60, _, Tryd.func60, rfl, by decide, rfl, by decide, by kernel_rfl, by kernel_rfl⟩
def c61 : AC :=
 .seq (.reg [⟨(some 2), none, .mov (.lit (.int .i64 0))⟩])
 (.seq (.seq (.reg [⟨(some 5), none, .mov (.tmp 0)⟩,
     ⟨(some 6), none, .len (.tmp 5)⟩,
     ⟨(some 7), none, .mov (.lit (.int .i64 0))⟩])
  (.block 0 (.loop (.seq (.reg [⟨(some 8), none, .bin .lss (.tmp 7) (.tmp 6)⟩])
   (.seq (.cond (.tmp 8) (.skip)
      (.exit 0))
   (.seq (.block 1 (.seq (.reg [⟨(some 9), none, .mov (.tmp 7)⟩,
       ⟨(some 10), none, .iaddr 1 (.tmp 5) (.tmp 7)⟩,
       ⟨(some 11), none, .load false 1 (.tmp 10)⟩,
       ⟨(some 3), none, .mov (.tmp 9)⟩,
       ⟨(some 4), none, .mov (.tmp 11)⟩])
    (.seq (.reg [⟨(some 12), none, .mov (.tmp 3)⟩,
       ⟨(some 13), none, .bin .eql (.tmp 12) (.lit (.int .i64 0))⟩,
       ⟨(some 14), none, .mov (.tmp 13)⟩,
       ⟨(some 15), (some (14, false)), .mov (.tmp 4)⟩,
       ⟨(some 16), (some (14, false)), .mov (.tmp 2)⟩,
       ⟨(some 17), (some (14, false)), .bin .gtr (.tmp 15) (.tmp 16)⟩,
       ⟨(some 18), none, .pick (.tmp 14) (.lit (.bool true)) (.tmp 17)⟩])
    (.cond (.tmp 18) (.reg [⟨(some 19), none, .mov (.tmp 4)⟩,
       ⟨(some 2), none, .mov (.tmp 19)⟩])
      (.skip)))))
   (.reg [⟨(some 20), none, .bin .add (.tmp 7) (.lit (.int .i64 1))⟩,
     ⟨(some 7), none, .mov (.tmp 20)⟩])))))))
 (.seq (.reg [⟨(some 21), none, .mov (.tmp 2)⟩,
    ⟨(some 2), none, .mov (.tmp 21)⟩])
 (.ret)))
theorem k61 : FnC Tryd.prog 61 22 [] [] [.tmp 2] c61 1 := ⟨Tryd.f61, _, Tryd.func61, rfl, by decide, rfl, by decide, by kernel_rfl, by kernel_rfl⟩
def c62 : AC :=
 .seq (.reg [⟨(some 3), none, .box (.tmp 1)⟩,
    ⟨(some 4), none, .mov (.lit (.int .i64 0))⟩])
 (.seq (.reg [⟨(some 8), none, .mov (.tmp 0)⟩,
    ⟨(some 9), none, .mkfn (.func 78) [] [(.tmp 3)]⟩,
    ⟨(some 10), none, .build [(.int .i64 0), .nilFunc, .nilFunc] [(0, 1, (.lit (.int .i64 1))), (1, 1, (.tmp 9)), (2, 1, (.fn 79))]⟩,
    ⟨(some 11), none, .call (.fn 77) [(.tmp 8), (.tmp 10)]⟩,
    ⟨(some 7), none, .mov (.tmp 11)⟩,
    ⟨(some 12), none, .ext (.tmp 7) 0⟩,
    ⟨(some 13), none, .ext (.tmp 7) 1⟩,
    ⟨(some 5), none, .mov (.tmp 12)⟩,
    ⟨(some 6), none, .mov (.tmp 13)⟩])
 (.seq (.reg [⟨(some 14), none, .mov (.tmp 5)⟩,
    ⟨(some 4), none, .mov (.tmp 14)⟩])
 (.ret)))
theorem k62 : FnC Tryd.prog 62 15 [] [] [.tmp 4] c62 2 := ⟨Tryd.f62, _, Tryd.func62, rfl, by decide, rfl, by decide, by kernel_rfl, by kernel_rfl⟩
def c64 : AC :=
 .seq (.reg [⟨(some 2), none, .mov (.lit (.int .i64 0))⟩])
 (.seq (.cond (.lit (.bool false)) (.seq (.reg [⟨(some 3), none, .mov (.tmp 0)⟩,
      ⟨(some 4), none, .conv .u32 (.tmp 3)⟩,
      ⟨(some 5), none, .call (.fn 80) [(.tmp 4)]⟩,
      ⟨(some 2), none, .mov (.tmp 5)⟩])
   (.ret))
    (.skip))
 (.seq (.reg [⟨(some 6), none, .mov (.tmp 0)⟩,
    ⟨(some 7), none, .call (.fn 81) [(.tmp 6)]⟩,
    ⟨(some 2), none, .mov (.tmp 7)⟩])
 (.ret)))
theorem k64 : FnC Tryd.prog 64 8 [] [] [.tmp 2] c64 1 := ⟨Tryd.f64, _, Tryd.func64, rfl, by decide, rfl, by decide, by kernel_rfl, by kernel_rfl⟩
def c69 : AC :=
 .seq (.reg [⟨(some 2), none, .box (.tmp 0)⟩,
    ⟨(some 3), none, .box (.tmp 1)⟩,
    ⟨(some 4), none, .mov (.lit (.int .i64 0))⟩])
 (.seq (.seq (.reg [⟨(some 6), none, .faddr 0 (.tmp 3)⟩,
     ⟨(some 7), none, .faddr 0 (.tmp 6)⟩,
     ⟨(some 8), none, .load false 1 (.tmp 7)⟩,
     ⟨(some 5), none, .mov (.tmp 8)⟩])
  (.block 0 (.loop (.seq (.seq (.reg [⟨(some 9), none, .mov (.tmp 5)⟩,
       ⟨(some 10), none, .faddr 0 (.tmp 3)⟩,
       ⟨(some 11), none, .faddr 1 (.tmp 10)⟩,
       ⟨(some 12), none, .load false 1 (.tmp 11)⟩,
       ⟨(some 13), none, .bin .leq (.tmp 9) (.tmp 12)⟩,
       ⟨(some 14), none, .mov (.tmp 13)⟩,
       ⟨(some 15), (some (14, true)), .faddr 2 (.tmp 3)⟩,
       ⟨(some 16), (some (14, true)), .load false 1 (.tmp 15)⟩,
       ⟨(some 17), (some (14, true)), .bin .neq (.tmp 16) (.lit (.int .i64 2))⟩,
       ⟨(some 18), none, .pick (.tmp 14) (.tmp 17) (.lit (.bool false))⟩])
    (.cond (.tmp 18) (.skip)
      (.exit 0)))
   (.seq (.block 1 (.block 2 (.seq (.reg [⟨(some 24), none, .mov (.tmp 5)⟩,
       ⟨(some 25), none, .faddr 1 (.tmp 2)⟩,
       ⟨(some 26), none, .load false 1 (.tmp 25)⟩,
       ⟨(some 27), none, .bin .geq (.tmp 24) (.tmp 26)⟩,
       ⟨(some 23), none, .mov (.tmp 27)⟩])
    (.cond (.tmp 23) (.reg [⟨(some 28), none, .mov (.tmp 4)⟩,
       ⟨(some 29), none, .bin .or (.tmp 28) (.lit (.int .i64 4))⟩,
       ⟨(some 4), none, .mov (.tmp 29)⟩])
      (.seq (.reg [⟨(some 31), none, .mov (.tmp 5)⟩,
        ⟨(some 32), none, .faddr 0 (.tmp 2)⟩,
        ⟨(some 33), none, .load false 1 (.tmp 32)⟩,
        ⟨(some 34), none, .bin .lss (.tmp 31) (.tmp 33)⟩,
        ⟨(some 30), none, .mov (.tmp 34)⟩])
     (.cond (.tmp 30) (.reg [⟨(some 35), none, .mov (.tmp 4)⟩,
        ⟨(some 36), none, .bin .or (.tmp 35) (.lit (.int .i64 1))⟩,
        ⟨(some 4), none, .mov (.tmp 36)⟩])
       (.reg [⟨(some 21), none, .mov (.tmp 4)⟩,
        ⟨(some 22), none, .bin .or (.tmp 21) (.lit (.int .i64 2))⟩,
        ⟨(some 4), none, .mov (.tmp 22)⟩])))))))
   (.reg [⟨(some 19), none, .mov (.tmp 5)⟩,
     ⟨(some 20), none, .bin .add (.tmp 19) (.lit (.int .i64 1))⟩,
     ⟨(some 5), none, .mov (.tmp 20)⟩]))))))
 (.seq (.seq (.reg [⟨(some 37), none, .faddr 2 (.tmp 3)⟩,
     ⟨(some 38), none, .load false 1 (.tmp 37)⟩,
     ⟨(some 39), none, .bin .neq (.tmp 38) (.lit (.int .i64 0))⟩])
  (.cond (.tmp 39) (.reg [⟨(some 40), none, .mov (.tmp 4)⟩,
     ⟨(some 41), none, .bin .or (.tmp 40) (.lit (.int .i64 4))⟩,
     ⟨(some 4), none, .mov (.tmp 41)⟩])
    (.skip)))
 (.seq (.reg [⟨(some 42), none, .mov (.tmp 4)⟩,
    ⟨(some 4), none, .mov (.tmp 42)⟩])
 (.ret))))
theorem k69 : FnC Tryd.prog 69 43 [] [] [.tmp 4] c69 2 := ⟨Tryd.f69, _, Tryd.func69, rfl, by decide, rfl, by decide, by kernel_rfl, by kernel_rfl⟩
def c70 : AC :=
 .seq (.reg [⟨(some 6), none, .mov (.tmp 1)⟩,
    ⟨(some 7), none, .len (.tmp 6)⟩,
    ⟨(some 8), none, .mov (.lit (.int .i64 0))⟩])
 (.block 0 (.loop (.seq (.reg [⟨(some 9), none, .bin .lss (.tmp 8) (.tmp 7)⟩])
  (.seq (.cond (.tmp 9) (.skip)
     (.exit 0))
  (.seq (.block 1 (.seq (.reg [⟨(some 10), none, .iaddr 2 (.tmp 6) (.tmp 8)⟩,
      ⟨(some 11), none, .load true 2 (.tmp 10)⟩,
      ⟨(some 5), none, .alloc [(.int .i64 0), (.bool false)]⟩,
      ⟨none, none, .store 2 (.tmp 5) (.tmp 11)⟩])
   (.seq (.reg [⟨(some 12), none, .faddr 1 (.tmp 5)⟩,
      ⟨(some 13), none, .load false 1 (.tmp 12)⟩])
   (.cond (.tmp 13) (.draw (.step ⟨(some 14), none, .mov (.tmp 0)⟩ (
      .step ⟨(some 15), none, .faddr 0 (.tmp 5)⟩ (
      .step ⟨(some 16), none, .load false 1 (.tmp 15)⟩ (
      .step ⟨(some 17), none, .nilck (.tmp 14)⟩ (
      .step ⟨(some 18), none, .faddr 5 (.tmp 17)⟩ (
      .step ⟨(some 19), none, .faddr 18 (.tmp 18)⟩ (
      .step ⟨(some 20), none, .iaddrA 9 1 (.tmp 19) (.tmp 16)⟩ (
      .ev ⟨none, none, .store 1 (.tmp 20) (.lit (.bool false))⟩ [⟨(some 19), none, .faddr 18 (.tmp 18)⟩, ⟨(some 18), none, .faddr 5 (.tmp 17)⟩, ⟨(some 17), none, .nilck (.tmp 14)⟩] (
      .done)
      (.stop))))))))))
     (.draw (.step ⟨(some 21), none, .mov (.tmp 0)⟩ (
      .step ⟨(some 22), none, .faddr 0 (.tmp 5)⟩ (
      .step ⟨(some 23), none, .load false 1 (.tmp 22)⟩ (
      .step ⟨(some 24), none, .nilck (.tmp 21)⟩ (
      .step ⟨(some 25), none, .faddr 5 (.tmp 24)⟩ (
      .step ⟨(some 26), none, .faddr 9 (.tmp 25)⟩ (
      .step ⟨(some 27), none, .iaddrA 9 1 (.tmp 26) (.tmp 23)⟩ (
      .ev ⟨none, none, .store 1 (.tmp 27) (.lit (.bool false))⟩ [⟨(some 26), none, .faddr 9 (.tmp 25)⟩, ⟨(some 25), none, .faddr 5 (.tmp 24)⟩, ⟨(some 24), none, .nilck (.tmp 21)⟩] (
      .done)
      (.stop))))))))))))))
  (.reg [⟨(some 28), none, .bin .add (.tmp 8) (.lit (.int .i64 1))⟩,
    ⟨(some 8), none, .mov (.tmp 28)⟩]))))))
theorem k70 : FnC Tryd.prog 70 29 [] [] [] c70 2 := ⟨Tryd.f70, _, Tryd.func70, rfl, by decide, rfl, by decide, by kernel_rfl, by kernel_rfl⟩
def c72 : AC :=
 .seq (.reg [⟨(some 2), none, .box (.tmp 0)⟩,
    ⟨(some 3), none, .box (.tmp 1)⟩,
    ⟨(some 4), none, .alloc [(.int .i64 0), (.int .i64 0)]⟩,
    ⟨(some 5), none, .mov (.lit (.bool false))⟩])
 (.seq (.reg [⟨(some 9), none, .mkmap (some [none, (some .i64), (some .i64)], none)⟩,
    ⟨(some 6), none, .alloc [(.map none)]⟩,
    ⟨none, none, .store 1 (.tmp 6) (.tmp 9)⟩])
 (.seq (.reg [⟨(some 7), none, .alloc [.nilFunc]⟩])
 (.seq (.reg [⟨(some 10), none, .mkfn (.func 83) [] [(.tmp 2), (.tmp 3), (.tmp 6), (.tmp 7)]⟩,
    ⟨none, none, .store 1 (.tmp 7) (.tmp 10)⟩])
 (.seq (.reg [⟨(some 11), none, .load false 1 (.tmp 7)⟩,
    ⟨(some 12), none, .build [(.bool false), (.int .i64 0), (.int .i64 0)] []⟩,
    ⟨(some 13), none, .call (.tmp 11) [(.tmp 12)]⟩,
    ⟨(some 8), none, .alloc [(.int .i64 0), (.int .i64 0), (.bool false)]⟩,
    ⟨none, none, .store 3 (.tmp 8) (.tmp 13)⟩])
 (.seq (.draw (.step ⟨(some 14), none, .faddr 0 (.tmp 8)⟩ (
    .step ⟨(some 15), none, .load true 2 (.tmp 14)⟩ (
    .step ⟨(some 16), none, .faddr 2 (.tmp 8)⟩ (
    .step ⟨(some 17), none, .load false 1 (.tmp 16)⟩ (
    .ev ⟨none, none, .store 2 (.tmp 4) (.tmp 15)⟩ [⟨(some 17), none, .load false 1 (.tmp 16)⟩, ⟨(some 16), none, .faddr 2 (.tmp 8)⟩] (
    .step ⟨(some 5), none, .mov (.tmp 17)⟩ (
     .done))
    (.stop)))))))
 (.ret))))))
theorem k72 : FnC Tryd.prog 72 18 [4] [] [.cell 4 true 2, .tmp 5] c72 2 := ⟨Tryd.f72, _, Tryd.func72, rfl, by decide, rfl, by decide, by kernel_rfl, by kernel_rfl⟩
def c73 : AC :=
 .seq (.reg [⟨(some 4), none, .box (.tmp 0)⟩,
    ⟨(some 6), none, .box (.tmp 2)⟩,
    ⟨(some 7), none, .alloc [(.int .i64 0), (.int .i64 0)]⟩])
 (.seq (.reg [⟨(some 9), none, .load false 1 (.tmp 3)⟩,
    ⟨(some 10), none, .load true 4 (.tmp 4)⟩,
    ⟨(some 11), none, .mov (.tmp 1)⟩,
    ⟨(some 12), none, .inv [(88, 105), (96, 106)] (.tmp 9) [(.tmp 10), (.tmp 11)]⟩,
    ⟨(some 8), none, .mov (.tmp 12)⟩])
 (.seq (.reg [⟨(some 13), none, .faddr 0 (.tmp 6)⟩,
    ⟨(some 14), none, .load false 1 (.tmp 13)⟩,
    ⟨(some 15), none, .mov (.tmp 8)⟩,
    ⟨(some 16), none, .bin .add (.tmp 14) (.tmp 15)⟩,
    ⟨(some 17), none, .faddr 1 (.tmp 6)⟩,
    ⟨(some 18), none, .load false 1 (.tmp 17)⟩,
    ⟨(some 19), none, .mov (.tmp 8)⟩,
    ⟨(some 20), none, .bin .add (.tmp 18) (.tmp 19)⟩,
    ⟨(some 21), none, .build [(.int .i64 0), (.int .i64 0)] [(0, 1, (.tmp 16)), (1, 1, (.tmp 20))]⟩,
    ⟨none, none, .store 2 (.tmp 7) (.tmp 21)⟩])
 (.ret)))
theorem k73 : FnC Tryd.prog 73 22 [7] [] [.cell 7 true 2] c73 4 := ⟨Tryd.f73, _, Tryd.func73, rfl, by decide, rfl, by decide, by kernel_rfl, by kernel_rfl⟩
def c74 : AC :=
 .seq (.reg [⟨(some 2), none, .box (.tmp 0)⟩,
    ⟨(some 3), none, .box (.tmp 1)⟩,
    ⟨(some 4), none, .alloc [(.int .i64 0), (.int .i64 0)]⟩])
 (.seq (.draw (.step ⟨(some 5), none, .faddr 0 (.tmp 2)⟩ (
    .step ⟨(some 6), none, .load false 1 (.tmp 5)⟩ (
    .step ⟨(some 7), none, .faddr 0 (.tmp 3)⟩ (
    .step ⟨(some 8), none, .load false 1 (.tmp 7)⟩ (
    .step ⟨(some 9), none, .mxmn false (.tmp 6) [(.tmp 8)]⟩ (
    .step ⟨(some 10), none, .faddr 1 (.tmp 2)⟩ (
    .step ⟨(some 11), none, .load false 1 (.tmp 10)⟩ (
    .step ⟨(some 12), none, .faddr 1 (.tmp 3)⟩ (
    .step ⟨(some 13), none, .load false 1 (.tmp 12)⟩ (
    .ev ⟨(some 14), none, .bslice 1 (.int .i64 0) 2 [(0, (.tmp 11)), (1, (.tmp 13))]⟩ [⟨(some 12), none, .faddr 1 (.tmp 3)⟩, ⟨(some 10), none, .faddr 1 (.tmp 2)⟩, ⟨(some 8), none, .load false 1 (.tmp 7)⟩, ⟨(some 7), none, .faddr 0 (.tmp 3)⟩, ⟨(some 6), none, .load false 1 (.tmp 5)⟩, ⟨(some 5), none, .faddr 0 (.tmp 2)⟩] (
    .ev ⟨(some 15), none, .call (.fn 61) [(.tmp 14)]⟩ [⟨(some 13), none, .load false 1 (.tmp 12)⟩, ⟨(some 12), none, .faddr 1 (.tmp 3)⟩, ⟨(some 11), none, .load false 1 (.tmp 10)⟩, ⟨(some 10), none, .faddr 1 (.tmp 2)⟩, ⟨(some 8), none, .load false 1 (.tmp 7)⟩, ⟨(some 7), none, .faddr 0 (.tmp 3)⟩, ⟨(some 6), none, .load false 1 (.tmp 5)⟩, ⟨(some 5), none, .faddr 0 (.tmp 2)⟩] (
     .step ⟨(some 16), none, .build [(.int .i64 0), (.int .i64 0)] [(0, 1, (.tmp 9)), (1, 1, (.tmp 15))]⟩ (
      .ev ⟨none, none, .store 2 (.tmp 4) (.tmp 16)⟩ [] (
      .done)
      (.stop)))
     (.stop))
    (.stop))))))))))))
 (.ret))
theorem k74 : FnC Tryd.prog 74 17 [4] [] [.cell 4 true 2] c74 2 := ⟨Tryd.f74, _, Tryd.func74, rfl, by decide, rfl, by decide, by kernel_rfl, by kernel_rfl⟩
def c75 : AC :=
 .seq (.reg [⟨(some 2), none, .mov (.lit (.int .i64 0))⟩])
 (.seq (.seq (.reg [⟨(some 3), none, .mov (.tmp 0)⟩,
     ⟨(some 4), none, .bin .eql (.tmp 3) (.lit (.int .u32 0))⟩])
  (.cond (.tmp 4) (.seq (.reg [⟨(some 2), none, .mov (.lit (.int .i64 32))⟩])
   (.ret))
    (.skip)))
 (.seq (.reg [⟨(some 5), none, .mov (.tmp 0)⟩,
    ⟨(some 6), none, .mov (.tmp 0)⟩,
    ⟨(some 7), none, .un .neg (.tmp 6)⟩,
    ⟨(some 8), none, .bin .and (.tmp 5) (.tmp 7)⟩,
    ⟨(some 9), none, .bin .mul (.tmp 8) (.lit (.int .u32 125613361))⟩,
    ⟨(some 10), none, .bin .shr (.tmp 9) (.lit (.int .u64 27))⟩,
    ⟨(some 11), none, .iaddrA 32 1 (.tr (.ptr (tabT tab32) 0)) (.tmp 10)⟩,
    ⟨(some 12), none, .load false 1 (.tmp 11)⟩,
    ⟨(some 13), none, .conv .i64 (.tmp 12)⟩,
    ⟨(some 2), none, .mov (.tmp 13)⟩])
 (.ret)))
theorem k75 : FnC Tryd.prog 75 14 [] [] [.tmp 2] c75 1 := ⟨Tryd.f75, _, Tryd.func75, rfl, by decide, rfl, by decide, by kernel_rfl, by kernel_rfl⟩
def c76 : AC :=
 .seq (.reg [⟨(some 2), none, .mov (.lit (.int .i64 0))⟩])
 (.seq (.seq (.reg [⟨(some 3), none, .mov (.tmp 0)⟩,
     ⟨(some 4), none, .bin .eql (.tmp 3) (.lit (.int .u64 0))⟩])
  (.cond (.tmp 4) (.seq (.reg [⟨(some 2), none, .mov (.lit (.int .i64 64))⟩])
   (.ret))
    (.skip)))
 (.seq (.reg [⟨(some 5), none, .mov (.tmp 0)⟩,
    ⟨(some 6), none, .mov (.tmp 0)⟩,
    ⟨(some 7), none, .un .neg (.tmp 6)⟩,
    ⟨(some 8), none, .bin .and (.tmp 5) (.tmp 7)⟩,
    ⟨(some 9), none, .bin .mul (.tmp 8) (.lit (.int .u64 285870213051353865))⟩,
    ⟨(some 10), none, .bin .shr (.tmp 9) (.lit (.int .u64 58))⟩,
    ⟨(some 11), none, .iaddrA 64 1 (.tr (.ptr (tabT tab64) 0)) (.tmp 10)⟩,
    ⟨(some 12), none, .load false 1 (.tmp 11)⟩,
    ⟨(some 13), none, .conv .i64 (.tmp 12)⟩,
    ⟨(some 2), none, .mov (.tmp 13)⟩])
 (.ret)))
theorem k76 : FnC Tryd.prog 76 14 [] [] [.tmp 2] c76 1 := ⟨Tryd.f76, _, Tryd.func76, rfl, by decide, rfl, by decide, by kernel_rfl, by kernel_rfl⟩
def c77 : AC :=
 .seq (.reg [⟨(some 2), none, .box (.tmp 0)⟩,
    ⟨(some 3), none, .box (.tmp 1)⟩,
    ⟨(some 4), none, .mov (.lit (.int .i64 0))⟩,
    ⟨(some 5), none, .mov (.lit (.bool false))⟩])
 (.seq (.reg [⟨(some 9), none, .mkmap (some [none, (some .i64), (some .i64)], none)⟩,
    ⟨(some 6), none, .alloc [(.map none)]⟩,
    ⟨none, none, .store 1 (.tmp 6) (.tmp 9)⟩])
 (.seq (.reg [⟨(some 7), none, .alloc [.nilFunc]⟩])
 (.seq (.reg [⟨(some 10), none, .mkfn (.func 85) [] [(.tmp 2), (.tmp 3), (.tmp 6), (.tmp 7)]⟩,
    ⟨none, none, .store 1 (.tmp 7) (.tmp 10)⟩])
 (.seq (.reg [⟨(some 11), none, .load false 1 (.tmp 7)⟩,
    ⟨(some 12), none, .build [(.bool false), (.int .i64 0), (.int .i64 0)] []⟩,
    ⟨(some 13), none, .call (.tmp 11) [(.tmp 12)]⟩,
    ⟨(some 8), none, .alloc [(.int .i64 0), (.bool false)]⟩,
    ⟨none, none, .store 2 (.tmp 8) (.tmp 13)⟩])
 (.seq (.draw (.step ⟨(some 14), none, .faddr 0 (.tmp 8)⟩ (
    .step ⟨(some 15), none, .load false 1 (.tmp 14)⟩ (
    .step ⟨(some 16), none, .faddr 1 (.tmp 8)⟩ (
    .step ⟨(some 17), none, .load false 1 (.tmp 16)⟩ (
    .step ⟨(some 4), none, .mov (.tmp 15)⟩ (
    .step ⟨(some 5), none, .mov (.tmp 17)⟩ (
    .done))))))))
 (.ret))))))
theorem k77 : FnC Tryd.prog 77 18 [] [] [.tmp 4, .tmp 5] c77 2 := ⟨Tryd.f77, _, Tryd.func77, rfl, by decide, rfl, by decide, by kernel_rfl, by kernel_rfl⟩
def c78 : AC :=
 .seq (.reg [⟨(some 4), none, .box (.tmp 0)⟩,
    ⟨(some 7), none, .mov (.lit (.int .i64 0))⟩])
 (.seq (.reg [⟨(some 8), none, .mov (.tmp 2)⟩,
    ⟨(some 9), none, .load false 1 (.tmp 3)⟩,
    ⟨(some 10), none, .load true 4 (.tmp 4)⟩,
    ⟨(some 11), none, .mov (.tmp 1)⟩,
    ⟨(some 12), none, .inv [(88, 105), (96, 106)] (.tmp 9) [(.tmp 10), (.tmp 11)]⟩,
    ⟨(some 13), none, .bin .mul (.tmp 8) (.tmp 12)⟩,
    ⟨(some 7), none, .mov (.tmp 13)⟩])
 (.ret))
theorem k78 : FnC Tryd.prog 78 14 [] [] [.tmp 7] c78 4 := ⟨Tryd.f78, _, Tryd.func78, rfl, by decide, rfl, by decide, by kernel_rfl, by kernel_rfl⟩
def c79 : AC :=
 .seq (.reg [⟨(some 4), none, .mov (.lit (.int .i64 0))⟩])
 (.seq (.reg [⟨(some 5), none, .mov (.tmp 0)⟩,
    ⟨(some 6), none, .mov (.tmp 1)⟩,
    ⟨(some 7), none, .bin .add (.tmp 5) (.tmp 6)⟩,
    ⟨(some 4), none, .mov (.tmp 7)⟩])
 (.ret))
theorem k79 : FnC Tryd.prog 79 8 [] [] [.tmp 4] c79 2 := ⟨Tryd.f79, _, Tryd.func79, rfl, by decide, rfl, by decide, by kernel_rfl, by kernel_rfl⟩
def c80 : AC :=
 .seq (.reg [⟨(some 2), none, .mov (.lit (.int .i64 0))⟩])
 (.seq (.draw (.step ⟨(some 3), none, .mov (.tmp 0)⟩ (
    .step ⟨(some 4), none, .bin .shr (.tmp 3) (.lit (.int .u64 24))⟩ (
    .step ⟨(some 5), none, .sidx [0, 1, 1, 2, 1, 2, 2, 3, 1, 2, 2, 3, 2, 3, 3, 4, 1, 2, 2, 3, 2, 3, 3, 4, 2, 3, 3, 4, 3, 4, 4, 5, 1, 2, 2, 3, 2, 3, 3, 4, 2, 3, 3, 4, 3, 4, 4, 5, 2, 3, 3, 4, 3, 4, 4, 5, 3, 4, 4, 5, 4, 5, 5, 6, 1, 2, 2, 3, 2, 3, 3, 4, 2, 3, 3, 4, 3, 4, 4, 5, 2, 3, 3, 4, 3, 4, 4, 5, 3, 4, 4, 5, 4, 5, 5, 6, 2, 3, 3, 4, 3, 4, 4, 5, 3, 4, 4, 5, 4, 5, 5, 6, 3, 4, 4, 5, 4, 5, 5, 6, 4, 5, 5, 6, 5, 6, 6, 7, 1, 2, 2, 3, 2, 3, 3, 4, 2, 3, 3, 4, 3, 4, 4, 5, 2, 3, 3, 4, 3, 4, 4, 5, 3, 4, 4, 5, 4, 5, 5, 6, 2, 3, 3, 4, 3, 4, 4, 5, 3, 4, 4, 5, 4, 5, 5, 6, 3, 4, 4, 5, 4, 5, 5, 6, 4, 5, 5, 6, 5, 6, 6, 7, 2, 3, 3, 4, 3, 4, 4, 5, 3, 4, 4, 5, 4, 5, 5, 6, 3, 4, 4, 5, 4, 5, 5, 6, 4, 5, 5, 6, 5, 6, 6, 7, 3, 4, 4, 5, 4, 5, 5, 6, 4, 5, 5, 6, 5, 6, 6, 7, 4, 5, 5, 6, 5, 6, 6, 7, 5, 6, 6, 7, 6, 7, 7, 8] (.tmp 4)⟩ (
    .step ⟨(some 6), none, .mov (.tmp 0)⟩ (
    .step ⟨(some 7), none, .bin .shr (.tmp 6) (.lit (.int .u64 16))⟩ (
    .step ⟨(some 8), none, .bin .and (.tmp 7) (.lit (.int .u32 255))⟩ (
    .step ⟨(some 9), none, .sidx [0, 1, 1, 2, 1, 2, 2, 3, 1, 2, 2, 3, 2, 3, 3, 4, 1, 2, 2, 3, 2, 3, 3, 4, 2, 3, 3, 4, 3, 4, 4, 5, 1, 2, 2, 3, 2, 3, 3, 4, 2, 3, 3, 4, 3, 4, 4, 5, 2, 3, 3, 4, 3, 4, 4, 5, 3, 4, 4, 5, 4, 5, 5, 6, 1, 2, 2, 3, 2, 3, 3, 4, 2, 3, 3, 4, 3, 4, 4, 5, 2, 3, 3, 4, 3, 4, 4, 5, 3, 4, 4, 5, 4, 5, 5, 6, 2, 3, 3, 4, 3, 4, 4, 5, 3, 4, 4, 5, 4, 5, 5, 6, 3, 4, 4, 5, 4, 5, 5, 6, 4, 5, 5, 6, 5, 6, 6, 7, 1, 2, 2, 3, 2, 3, 3, 4, 2, 3, 3, 4, 3, 4, 4, 5, 2, 3, 3, 4, 3, 4, 4, 5, 3, 4, 4, 5, 4, 5, 5, 6, 2, 3, 3, 4, 3, 4, 4, 5, 3, 4, 4, 5, 4, 5, 5, 6, 3, 4, 4, 5, 4, 5, 5, 6, 4, 5, 5, 6, 5, 6, 6, 7, 2, 3, 3, 4, 3, 4, 4, 5, 3, 4, 4, 5, 4, 5, 5, 6, 3, 4, 4, 5, 4, 5, 5, 6, 4, 5, 5, 6, 5, 6, 6, 7, 3, 4, 4, 5, 4, 5, 5, 6, 4, 5, 5, 6, 5, 6, 6, 7, 4, 5, 5, 6, 5, 6, 6, 7, 5, 6, 6, 7, 6, 7, 7, 8] (.tmp 8)⟩ (
    .step ⟨(some 10), none, .bin .add (.tmp 5) (.tmp 9)⟩ (
    .step ⟨(some 11), none, .mov (.tmp 0)⟩ (
    .step ⟨(some 12), none, .bin .shr (.tmp 11) (.lit (.int .u64 8))⟩ (
    .step ⟨(some 13), none, .bin .and (.tmp 12) (.lit (.int .u32 255))⟩ (
    .step ⟨(some 14), none, .sidx [0, 1, 1, 2, 1, 2, 2, 3, 1, 2, 2, 3, 2, 3, 3, 4, 1, 2, 2, 3, 2, 3, 3, 4, 2, 3, 3, 4, 3, 4, 4, 5, 1, 2, 2, 3, 2, 3, 3, 4, 2, 3, 3, 4, 3, 4, 4, 5, 2, 3, 3, 4, 3, 4, 4, 5, 3, 4, 4, 5, 4, 5, 5, 6, 1, 2, 2, 3, 2, 3, 3, 4, 2, 3, 3, 4, 3, 4, 4, 5, 2, 3, 3, 4, 3, 4, 4, 5, 3, 4, 4, 5, 4, 5, 5, 6, 2, 3, 3, 4, 3, 4, 4, 5, 3, 4, 4, 5, 4, 5, 5, 6, 3, 4, 4, 5, 4, 5, 5, 6, 4, 5, 5, 6, 5, 6, 6, 7, 1, 2, 2, 3, 2, 3, 3, 4, 2, 3, 3, 4, 3, 4, 4, 5, 2, 3, 3, 4, 3, 4, 4, 5, 3, 4, 4, 5, 4, 5, 5, 6, 2, 3, 3, 4, 3, 4, 4, 5, 3, 4, 4, 5, 4, 5, 5, 6, 3, 4, 4, 5, 4, 5, 5, 6, 4, 5, 5, 6, 5, 6, 6, 7, 2, 3, 3, 4, 3, 4, 4, 5, 3, 4, 4, 5, 4, 5, 5, 6, 3, 4, 4, 5, 4, 5, 5, 6, 4, 5, 5, 6, 5, 6, 6, 7, 3, 4, 4, 5, 4, 5, 5, 6, 4, 5, 5, 6, 5, 6, 6, 7, 4, 5, 5, 6, 5, 6, 6, 7, 5, 6, 6, 7, 6, 7, 7, 8] (.tmp 13)⟩ (
    .step ⟨(some 15), none, .bin .add (.tmp 10) (.tmp 14)⟩ (
    .step ⟨(some 16), none, .mov (.tmp 0)⟩ (
    .step ⟨(some 17), none, .bin .and (.tmp 16) (.lit (.int .u32 255))⟩ (
    .step ⟨(some 18), none, .sidx [0, 1, 1, 2, 1, 2, 2, 3, 1, 2, 2, 3, 2, 3, 3, 4, 1, 2, 2, 3, 2, 3, 3, 4, 2, 3, 3, 4, 3, 4, 4, 5, 1, 2, 2, 3, 2, 3, 3, 4, 2, 3, 3, 4, 3, 4, 4, 5, 2, 3, 3, 4, 3, 4, 4, 5, 3, 4, 4, 5, 4, 5, 5, 6, 1, 2, 2, 3, 2, 3, 3, 4, 2, 3, 3, 4, 3, 4, 4, 5, 2, 3, 3, 4, 3, 4, 4, 5, 3, 4, 4, 5, 4, 5, 5, 6, 2, 3, 3, 4, 3, 4, 4, 5, 3, 4, 4, 5, 4, 5, 5, 6, 3, 4, 4, 5, 4, 5, 5, 6, 4, 5, 5, 6, 5, 6, 6, 7, 1, 2, 2, 3, 2, 3, 3, 4, 2, 3, 3, 4, 3, 4, 4, 5, 2, 3, 3, 4, 3, 4, 4, 5, 3, 4, 4, 5, 4, 5, 5, 6, 2, 3, 3, 4, 3, 4, 4, 5, 3, 4, 4, 5, 4, 5, 5, 6, 3, 4, 4, 5, 4, 5, 5, 6, 4, 5, 5, 6, 5, 6, 6, 7, 2, 3, 3, 4, 3, 4, 4, 5, 3, 4, 4, 5, 4, 5, 5, 6, 3, 4, 4, 5, 4, 5, 5, 6, 4, 5, 5, 6, 5, 6, 6, 7, 3, 4, 4, 5, 4, 5, 5, 6, 4, 5, 5, 6, 5, 6, 6, 7, 4, 5, 5, 6, 5, 6, 6, 7, 5, 6, 6, 7, 6, 7, 7, 8] (.tmp 17)⟩ (
    .step ⟨(some 19), none, .bin .add (.tmp 15) (.tmp 18)⟩ (
    .step ⟨(some 20), none, .conv .i64 (.tmp 19)⟩ (
    .step ⟨(some 2), none, .mov (.tmp 20)⟩ (
    .done)))))))))))))))))))))
 (.ret))
theorem k80 : FnC Tryd.prog 80 21 [] [] [.tmp 2] c80 1 := ⟨Tryd.f80, _, Tryd.func80, rfl, by decide, rfl, by decide, by kernel_rfl, by kernel_rfl⟩
def c81 : AC :=
 .seq (.reg [⟨(some 2), none, .mov (.lit (.int .i64 0))⟩])
 (.seq (.reg [⟨(some 3), none, .mov (.tmp 0)⟩,
    ⟨(some 4), none, .bin .shr (.tmp 3) (.lit (.int .u64 1))⟩,
    ⟨(some 5), none, .bin .and (.tmp 4) (.lit (.int .u64 6148914691236517205))⟩,
    ⟨(some 6), none, .mov (.tmp 0)⟩,
    ⟨(some 7), none, .bin .and (.tmp 6) (.lit (.int .u64 6148914691236517205))⟩,
    ⟨(some 8), none, .bin .add (.tmp 5) (.tmp 7)⟩,
    ⟨(some 0), none, .mov (.tmp 8)⟩])
 (.seq (.reg [⟨(some 9), none, .mov (.tmp 0)⟩,
    ⟨(some 10), none, .bin .shr (.tmp 9) (.lit (.int .u64 2))⟩,
    ⟨(some 11), none, .bin .and (.tmp 10) (.lit (.int .u64 3689348814741910323))⟩,
    ⟨(some 12), none, .mov (.tmp 0)⟩,
    ⟨(some 13), none, .bin .and (.tmp 12) (.lit (.int .u64 3689348814741910323))⟩,
    ⟨(some 14), none, .bin .add (.tmp 11) (.tmp 13)⟩,
    ⟨(some 0), none, .mov (.tmp 14)⟩])
 (.seq (.reg [⟨(some 15), none, .mov (.tmp 0)⟩,
    ⟨(some 16), none, .bin .shr (.tmp 15) (.lit (.int .u64 4))⟩,
    ⟨(some 17), none, .mov (.tmp 0)⟩,
    ⟨(some 18), none, .bin .add (.tmp 16) (.tmp 17)⟩,
    ⟨(some 19), none, .bin .and (.tmp 18) (.lit (.int .u64 1085102592571150095))⟩,
    ⟨(some 0), none, .mov (.tmp 19)⟩])
 (.seq (.reg [⟨(some 20), none, .mov (.tmp 0)⟩,
    ⟨(some 21), none, .mov (.tmp 0)⟩,
    ⟨(some 22), none, .bin .shr (.tmp 21) (.lit (.int .u64 8))⟩,
    ⟨(some 23), none, .bin .add (.tmp 20) (.tmp 22)⟩,
    ⟨(some 0), none, .mov (.tmp 23)⟩])
 (.seq (.reg [⟨(some 24), none, .mov (.tmp 0)⟩,
    ⟨(some 25), none, .mov (.tmp 0)⟩,
    ⟨(some 26), none, .bin .shr (.tmp 25) (.lit (.int .u64 16))⟩,
    ⟨(some 27), none, .bin .add (.tmp 24) (.tmp 26)⟩,
    ⟨(some 0), none, .mov (.tmp 27)⟩])
 (.seq (.reg [⟨(some 28), none, .mov (.tmp 0)⟩,
    ⟨(some 29), none, .mov (.tmp 0)⟩,
    ⟨(some 30), none, .bin .shr (.tmp 29) (.lit (.int .u64 32))⟩,
    ⟨(some 31), none, .bin .add (.tmp 28) (.tmp 30)⟩,
    ⟨(some 0), none, .mov (.tmp 31)⟩])
 (.seq (.reg [⟨(some 32), none, .mov (.tmp 0)⟩,
    ⟨(some 33), none, .conv .i64 (.tmp 32)⟩,
    ⟨(some 34), none, .bin .and (.tmp 33) (.lit (.int .i64 127))⟩,
    ⟨(some 2), none, .mov (.tmp 34)⟩])
 (.ret))))))))
theorem k81 : FnC Tryd.prog 81 35 [] [] [.tmp 2] c81 1 := ⟨Tryd.f81, _, Tryd.func81, rfl, by decide, rfl, by decide, by kernel_rfl, by kernel_rfl⟩
def c83 : AC :=
 .seq (.reg [⟨(some 5), none, .box (.tmp 0)⟩,
    ⟨(some 6), none, .alloc [(.int .i64 0), (.int .i64 0), (.bool false)]⟩])
 (.seq (.seq (.draw (.step ⟨(some 13), none, .faddr 2 (.tmp 5)⟩ (
     .step ⟨(some 14), none, .load false 1 (.tmp 13)⟩ (
     .step ⟨(some 15), none, .load false 1 (.tmp 1)⟩ (
     .step ⟨(some 16), none, .nilck (.tmp 15)⟩ (
     .step ⟨(some 17), none, .faddr 0 (.tmp 16)⟩ (
     .step ⟨(some 18), none, .faddr 3 (.tmp 17)⟩ (
     .step ⟨(some 19), none, .load false 1 (.tmp 18)⟩ (
     .step ⟨(some 20), none, .len (.tmp 19)⟩ (
     .step ⟨(some 21), none, .bin .eql (.tmp 14) (.tmp 20)⟩ (
     .done)))))))))))
  (.cond (.tmp 21) (.seq (.reg [⟨(some 22), none, .faddr 0 (.tmp 2)⟩,
      ⟨(some 23), none, .load true 2 (.tmp 22)⟩,
      ⟨(some 24), none, .build [(.int .i64 0), (.int .i64 0), (.bool false)] [(0, 2, (.tmp 23)), (2, 1, (.lit (.bool true)))]⟩,
      ⟨none, none, .store 3 (.tmp 6) (.tmp 24)⟩])
   (.ret))
    (.skip)))
 (.seq (.seq (.reg [⟨(some 26), none, .load false 1 (.tmp 3)⟩,
     ⟨(some 27), none, .load true 3 (.tmp 5)⟩,
     ⟨(some 28), none, .look (some [none, (some .i64), (some .i64)], none) (.agg #[(.int .i64 0), (.int .i64 0), (.bool false)]) true (.tmp 26) (.tmp 27)⟩,
     ⟨(some 25), none, .mov (.tmp 28)⟩,
     ⟨(some 29), none, .ext (.tmp 25) 0⟩,
     ⟨(some 30), none, .ext (.tmp 25) 1⟩,
     ⟨(some 7), none, .alloc [(.int .i64 0), (.int .i64 0), (.bool false)]⟩,
     ⟨none, none, .store 3 (.tmp 7) (.tmp 29)⟩,
     ⟨(some 8), none, .mov (.tmp 30)⟩])
  (.seq (.reg [⟨(some 31), none, .mov (.tmp 8)⟩])
  (.cond (.tmp 31) (.seq (.reg [⟨(some 32), none, .load true 3 (.tmp 7)⟩,
      ⟨none, none, .store 3 (.tmp 6) (.tmp 32)⟩])
   (.ret))
    (.skip))))
 (.seq (.reg [⟨(some 9), none, .alloc [(.int .i64 0), (.int .i64 0), (.bool false)]⟩])
 (.seq (.seq (.reg [⟨(some 33), none, .load false 1 (.tmp 1)⟩,
     ⟨(some 34), none, .faddr 0 (.tmp 5)⟩,
     ⟨(some 35), none, .load true 2 (.tmp 34)⟩,
     ⟨(some 36), none, .faddr 2 (.tmp 5)⟩,
     ⟨(some 37), none, .load false 1 (.tmp 36)⟩,
     ⟨(some 38), none, .call (.fn 84) [(.tmp 33), (.tmp 35), (.tmp 37)]⟩])
  (.block 0 (.rangeF (.tmp 38) 39 (.reg [⟨(some 10), none, .alloc [(.bool false), (.int .i64 0), (.bool false), (.int .i64 0)]⟩,
     ⟨none, none, .store 4 (.tmp 10) (.tmp 39)⟩])
    (.block 1 (.seq (.reg [⟨(some 40), none, .load false 1 (.tmp 4)⟩,
      ⟨(some 41), none, .faddr 0 (.tmp 10)⟩,
      ⟨(some 42), none, .load true 2 (.tmp 41)⟩,
      ⟨(some 43), none, .faddr 2 (.tmp 5)⟩,
      ⟨(some 44), none, .load false 1 (.tmp 43)⟩,
      ⟨(some 45), none, .bin .add (.tmp 44) (.lit (.int .i64 1))⟩,
      ⟨(some 46), none, .build [(.bool false), (.int .i64 0), (.int .i64 0)] [(0, 2, (.tmp 42)), (2, 1, (.tmp 45))]⟩,
      ⟨(some 47), none, .call (.tmp 40) [(.tmp 46)]⟩,
      ⟨(some 11), none, .alloc [(.int .i64 0), (.int .i64 0), (.bool false)]⟩,
      ⟨none, none, .store 3 (.tmp 11) (.tmp 47)⟩])
   (.seq (.seq (.reg [⟨(some 48), none, .faddr 2 (.tmp 11)⟩,
       ⟨(some 49), none, .load false 1 (.tmp 48)⟩,
       ⟨(some 50), none, .un .not (.tmp 49)⟩])
    (.cond (.tmp 50) (.exit 1)
      (.skip)))
   (.seq (.reg [⟨(some 51), none, .faddr 2 (.tmp 2)⟩,
      ⟨(some 52), none, .load false 1 (.tmp 51)⟩,
      ⟨(some 53), none, .load true 4 (.tmp 10)⟩,
      ⟨(some 54), none, .faddr 2 (.tmp 5)⟩,
      ⟨(some 55), none, .load false 1 (.tmp 54)⟩,
      ⟨(some 56), none, .faddr 0 (.tmp 11)⟩,
      ⟨(some 57), none, .load true 2 (.tmp 56)⟩,
      ⟨(some 58), none, .call (.tmp 52) [(.tmp 53), (.tmp 55), (.tmp 57)]⟩,
      ⟨(some 12), none, .alloc [(.int .i64 0), (.int .i64 0)]⟩,
      ⟨none, none, .store 2 (.tmp 12) (.tmp 58)⟩])
   (.seq (.seq (.reg [⟨(some 59), none, .faddr 2 (.tmp 9)⟩,
       ⟨(some 60), none, .load false 1 (.tmp 59)⟩])
    (.cond (.tmp 60) (.reg [⟨(some 61), none, .faddr 3 (.tmp 2)⟩,
       ⟨(some 62), none, .load false 1 (.tmp 61)⟩,
       ⟨(some 63), none, .faddr 0 (.tmp 9)⟩,
       ⟨(some 64), none, .load true 2 (.tmp 63)⟩,
       ⟨(some 65), none, .load true 2 (.tmp 12)⟩,
       ⟨(some 66), none, .call (.tmp 62) [(.tmp 64), (.tmp 65)]⟩,
       ⟨none, none, .store 2 (.tmp 12) (.tmp 66)⟩])
      (.skip)))
   (.reg [⟨(some 67), none, .load true 2 (.tmp 12)⟩,
     ⟨(some 68), none, .build [(.int .i64 0), (.int .i64 0), (.bool false)] [(0, 2, (.tmp 67)), (2, 1, (.lit (.bool true)))]⟩,
     ⟨none, none, .store 3 (.tmp 9) (.tmp 68)⟩])))))))))
 (.seq (.reg [⟨(some 69), none, .load false 1 (.tmp 3)⟩,
    ⟨(some 70), none, .load true 3 (.tmp 5)⟩,
    ⟨(some 71), none, .load true 3 (.tmp 9)⟩,
    ⟨none, none, .mput (some [none, (some .i64), (some .i64)], none) (.tmp 69) (.tmp 70) (.tmp 71)⟩])
 (.seq (.reg [⟨(some 72), none, .load true 3 (.tmp 9)⟩,
    ⟨none, none, .store 3 (.tmp 6) (.tmp 72)⟩])
 (.ret)))))))
theorem k83 : FnC Tryd.prog 83 73 [6] [] [.cell 6 true 3] c83 5 := ⟨Tryd.f83, _, Tryd.func83, rfl, by decide, rfl, by decide, by kernel_rfl, by kernel_rfl⟩
def c84 : AC :=
 .seq (.reg [⟨(some 3), none, .box (.tmp 0)⟩,
    ⟨(some 4), none, .box (.tmp 1)⟩,
    ⟨(some 5), none, .box (.tmp 2)⟩,
    ⟨(some 6), none, .mov (.lit .nilFunc)⟩])
 (.seq (.reg [⟨(some 7), none, .mkfn (.func 87) [] [(.tmp 3), (.tmp 5), (.tmp 4)]⟩,
    ⟨(some 6), none, .mov (.tmp 7)⟩])
 (.ret))
theorem k84 : FnC Tryd.prog 84 8 [] [] [.tmp 6] c84 3 := ⟨Tryd.f84, _, Tryd.func84, rfl, by decide, rfl, by decide, by kernel_rfl, by kernel_rfl⟩
def c85 : AC :=
 .seq (.reg [⟨(some 5), none, .box (.tmp 0)⟩,
    ⟨(some 6), none, .alloc [(.int .i64 0), (.bool false)]⟩])
 (.seq (.seq (.draw (.step ⟨(some 13), none, .faddr 2 (.tmp 5)⟩ (
     .step ⟨(some 14), none, .load false 1 (.tmp 13)⟩ (
     .step ⟨(some 15), none, .load false 1 (.tmp 1)⟩ (
     .step ⟨(some 16), none, .nilck (.tmp 15)⟩ (
     .step ⟨(some 17), none, .faddr 0 (.tmp 16)⟩ (
     .step ⟨(some 18), none, .faddr 3 (.tmp 17)⟩ (
     .step ⟨(some 19), none, .load false 1 (.tmp 18)⟩ (
     .step ⟨(some 20), none, .len (.tmp 19)⟩ (
     .step ⟨(some 21), none, .bin .eql (.tmp 14) (.tmp 20)⟩ (
     .done)))))))))))
  (.cond (.tmp 21) (.seq (.reg [⟨(some 22), none, .faddr 0 (.tmp 2)⟩,
      ⟨(some 23), none, .load false 1 (.tmp 22)⟩,
      ⟨(some 24), none, .build [(.int .i64 0), (.bool false)] [(0, 1, (.tmp 23)), (1, 1, (.lit (.bool true)))]⟩,
      ⟨none, none, .store 2 (.tmp 6) (.tmp 24)⟩])
   (.ret))
    (.skip)))
 (.seq (.seq (.reg [⟨(some 26), none, .load false 1 (.tmp 3)⟩,
     ⟨(some 27), none, .load true 3 (.tmp 5)⟩,
     ⟨(some 28), none, .look (some [none, (some .i64), (some .i64)], none) (.agg #[(.int .i64 0), (.bool false)]) true (.tmp 26) (.tmp 27)⟩,
     ⟨(some 25), none, .mov (.tmp 28)⟩,
     ⟨(some 29), none, .ext (.tmp 25) 0⟩,
     ⟨(some 30), none, .ext (.tmp 25) 1⟩,
     ⟨(some 7), none, .alloc [(.int .i64 0), (.bool false)]⟩,
     ⟨none, none, .store 2 (.tmp 7) (.tmp 29)⟩,
     ⟨(some 8), none, .mov (.tmp 30)⟩])
  (.seq (.reg [⟨(some 31), none, .mov (.tmp 8)⟩])
  (.cond (.tmp 31) (.seq (.reg [⟨(some 32), none, .load true 2 (.tmp 7)⟩,
      ⟨none, none, .store 2 (.tmp 6) (.tmp 32)⟩])
   (.ret))
    (.skip))))
 (.seq (.reg [⟨(some 9), none, .alloc [(.int .i64 0), (.bool false)]⟩])
 (.seq (.seq (.reg [⟨(some 33), none, .load false 1 (.tmp 1)⟩,
     ⟨(some 34), none, .faddr 0 (.tmp 5)⟩,
     ⟨(some 35), none, .load true 2 (.tmp 34)⟩,
     ⟨(some 36), none, .faddr 2 (.tmp 5)⟩,
     ⟨(some 37), none, .load false 1 (.tmp 36)⟩,
     ⟨(some 38), none, .call (.fn 84) [(.tmp 33), (.tmp 35), (.tmp 37)]⟩])
  (.block 0 (.rangeF (.tmp 38) 39 (.reg [⟨(some 10), none, .alloc [(.bool false), (.int .i64 0), (.bool false), (.int .i64 0)]⟩,
     ⟨none, none, .store 4 (.tmp 10) (.tmp 39)⟩])
    (.block 1 (.seq (.reg [⟨(some 40), none, .load false 1 (.tmp 4)⟩,
      ⟨(some 41), none, .faddr 0 (.tmp 10)⟩,
      ⟨(some 42), none, .load true 2 (.tmp 41)⟩,
      ⟨(some 43), none, .faddr 2 (.tmp 5)⟩,
      ⟨(some 44), none, .load false 1 (.tmp 43)⟩,
      ⟨(some 45), none, .bin .add (.tmp 44) (.lit (.int .i64 1))⟩,
      ⟨(some 46), none, .build [(.bool false), (.int .i64 0), (.int .i64 0)] [(0, 2, (.tmp 42)), (2, 1, (.tmp 45))]⟩,
      ⟨(some 47), none, .call (.tmp 40) [(.tmp 46)]⟩,
      ⟨(some 11), none, .alloc [(.int .i64 0), (.bool false)]⟩,
      ⟨none, none, .store 2 (.tmp 11) (.tmp 47)⟩])
   (.seq (.seq (.reg [⟨(some 48), none, .faddr 1 (.tmp 11)⟩,
       ⟨(some 49), none, .load false 1 (.tmp 48)⟩,
       ⟨(some 50), none, .un .not (.tmp 49)⟩])
    (.cond (.tmp 50) (.exit 1)
      (.skip)))
   (.seq (.reg [⟨(some 51), none, .faddr 1 (.tmp 2)⟩,
      ⟨(some 52), none, .load false 1 (.tmp 51)⟩,
      ⟨(some 53), none, .load true 4 (.tmp 10)⟩,
      ⟨(some 54), none, .faddr 2 (.tmp 5)⟩,
      ⟨(some 55), none, .load false 1 (.tmp 54)⟩,
      ⟨(some 56), none, .faddr 0 (.tmp 11)⟩,
      ⟨(some 57), none, .load false 1 (.tmp 56)⟩,
      ⟨(some 58), none, .call (.tmp 52) [(.tmp 53), (.tmp 55), (.tmp 57)]⟩,
      ⟨(some 12), none, .mov (.tmp 58)⟩])
   (.seq (.seq (.reg [⟨(some 59), none, .faddr 1 (.tmp 9)⟩,
       ⟨(some 60), none, .load false 1 (.tmp 59)⟩])
    (.cond (.tmp 60) (.reg [⟨(some 61), none, .faddr 2 (.tmp 2)⟩,
       ⟨(some 62), none, .load false 1 (.tmp 61)⟩,
       ⟨(some 63), none, .faddr 0 (.tmp 9)⟩,
       ⟨(some 64), none, .load false 1 (.tmp 63)⟩,
       ⟨(some 65), none, .mov (.tmp 12)⟩,
       ⟨(some 66), none, .call (.tmp 62) [(.tmp 64), (.tmp 65)]⟩,
       ⟨(some 12), none, .mov (.tmp 66)⟩])
      (.skip)))
   (.reg [⟨(some 67), none, .mov (.tmp 12)⟩,
     ⟨(some 68), none, .build [(.int .i64 0), (.bool false)] [(0, 1, (.tmp 67)), (1, 1, (.lit (.bool true)))]⟩,
     ⟨none, none, .store 2 (.tmp 9) (.tmp 68)⟩])))))))))
 (.seq (.reg [⟨(some 69), none, .load false 1 (.tmp 3)⟩,
    ⟨(some 70), none, .load true 3 (.tmp 5)⟩,
    ⟨(some 71), none, .load true 2 (.tmp 9)⟩,
    ⟨none, none, .mput (some [none, (some .i64), (some .i64)], none) (.tmp 69) (.tmp 70) (.tmp 71)⟩])
 (.seq (.reg [⟨(some 72), none, .load true 2 (.tmp 9)⟩,
    ⟨none, none, .store 2 (.tmp 6) (.tmp 72)⟩])
 (.ret)))))))
theorem k85 : FnC Tryd.prog 85 73 [6] [] [.cell 6 true 2] c85 5 := ⟨Tryd.f85, _, Tryd.func85, rfl, by decide, rfl, by decide, by kernel_rfl, by kernel_rfl⟩
def c87 : AC :=
 .scope (.seq (.draw (.step ⟨(some 10), none, .load false 1 (.tmp 1)⟩ (
    .step ⟨(some 11), none, .load false 1 (.tmp 2)⟩ (
    .step ⟨(some 12), none, .nilck (.tmp 10)⟩ (
    .step ⟨(some 13), none, .faddr 5 (.tmp 12)⟩ (
    .step ⟨(some 14), none, .faddr 0 (.tmp 13)⟩ (
    .step ⟨(some 15), none, .iaddrA 9 1 (.tmp 14) (.tmp 11)⟩ (
    .step ⟨(some 16), none, .load false 1 (.tmp 15)⟩ (
    .step ⟨(some 17), none, .mkfn (.func 88) [(.tmp 16)] []⟩ (
    .step ⟨(some 5), none, .mov (.tmp 17)⟩ (
    .done)))))))))))
 (.seq (.reg [⟨(some 6), none, .mov (.fn 89)⟩])
 (.seq (.skip)
 (.seq (.reg [⟨(some 18), none, .mov (.lit (.int .i64 0))⟩])
 (.block 0 (.loop (.seq (.reg [⟨(some 19), none, .bin .lss (.tmp 18) (.lit (.int .i64 3))⟩])
  (.seq (.cond (.tmp 19) (.skip)
     (.exit 0))
  (.seq (.block 1 (.seq (.reg [⟨(some 20), none, .mov (.tmp 18)⟩,
      ⟨(some 7), none, .mov (.tmp 20)⟩])
   (.seq (.seq (.reg [⟨(some 21), none, .mov (.tmp 5)⟩,
       ⟨(some 22), none, .mov (.tmp 7)⟩,
       ⟨(some 23), none, .call (.tmp 21) [(.tmp 22)]⟩,
       ⟨(some 24), none, .un .not (.tmp 23)⟩])
    (.cond (.tmp 24) (.exit 1)
      (.skip)))
   (.seq (.draw (.step ⟨(some 26), none, .mov (.tmp 6)⟩ (
      .step ⟨(some 27), none, .load true 2 (.tmp 3)⟩ (
      .step ⟨(some 28), none, .mov (.tmp 7)⟩ (
      .step ⟨(some 29), none, .load false 1 (.tmp 1)⟩ (
      .step ⟨(some 30), none, .nilck (.tmp 29)⟩ (
      .step ⟨(some 31), none, .faddr 0 (.tmp 30)⟩ (
      .step ⟨(some 32), none, .faddr 2 (.tmp 31)⟩ (
      .step ⟨(some 33), none, .load false 1 (.tmp 32)⟩ (
      .ev ⟨(some 34), none, .call (.tmp 26) [(.tmp 27), (.tmp 28), (.tmp 33)]⟩ [⟨(some 32), none, .faddr 2 (.tmp 31)⟩, ⟨(some 31), none, .faddr 0 (.tmp 30)⟩, ⟨(some 30), none, .nilck (.tmp 29)⟩, ⟨(some 29), none, .load false 1 (.tmp 1)⟩] (
      .step ⟨(some 25), none, .mov (.tmp 34)⟩ (
       .step ⟨(some 35), none, .ext (.tmp 25) 0⟩ (
       .step ⟨(some 36), none, .ext (.tmp 25) 1⟩ (
       .ev ⟨(some 8), none, .alloc [(.bool false), (.int .i64 0)]⟩ [⟨(some 33), none, .load false 1 (.tmp 32)⟩, ⟨(some 32), none, .faddr 2 (.tmp 31)⟩, ⟨(some 31), none, .faddr 0 (.tmp 30)⟩, ⟨(some 30), none, .nilck (.tmp 29)⟩, ⟨(some 29), none, .load false 1 (.tmp 1)⟩, ⟨(some 27), none, .load true 2 (.tmp 3)⟩] (
       .ev ⟨none, none, .store 2 (.tmp 8) (.tmp 35)⟩ [] (
        .step ⟨(some 9), none, .mov (.tmp 36)⟩ (
         .done))
        (.stop))
       (.stop)))))
      (.ev ⟨(some 8), none, .alloc [(.bool false), (.int .i64 0)]⟩ [⟨(some 33), none, .load false 1 (.tmp 32)⟩, ⟨(some 32), none, .faddr 2 (.tmp 31)⟩, ⟨(some 31), none, .faddr 0 (.tmp 30)⟩, ⟨(some 30), none, .nilck (.tmp 29)⟩, ⟨(some 29), none, .load false 1 (.tmp 1)⟩, ⟨(some 27), none, .load true 2 (.tmp 3)⟩] (
      .ev ⟨(some 34), none, .call (.tmp 26) [(.tmp 27), (.tmp 28), (.tmp 33)]⟩ [⟨(some 32), none, .faddr 2 (.tmp 31)⟩, ⟨(some 31), none, .faddr 0 (.tmp 30)⟩, ⟨(some 30), none, .nilck (.tmp 29)⟩, ⟨(some 29), none, .load false 1 (.tmp 1)⟩] (
       .step ⟨(some 25), none, .mov (.tmp 34)⟩ (
        .step ⟨(some 35), none, .ext (.tmp 25) 0⟩ (
        .step ⟨(some 36), none, .ext (.tmp 25) 1⟩ (
        .ev ⟨none, none, .store 2 (.tmp 8) (.tmp 35)⟩ [] (
        .step ⟨(some 9), none, .mov (.tmp 36)⟩ (
         .done))
        (.stop)))))
       (.stop))
      (.stop))))))))))))
   (.seq (.seq (.draw (.step ⟨(some 37), none, .mov (.tmp 9)⟩ (
       .step ⟨(some 38), none, .mov (.tmp 37)⟩ (
       .step ⟨(some 39), (some (38, true)), .load false 1 (.tmp 1)⟩ (
       .step ⟨(some 40), (some (38, true)), .load false 1 (.tmp 2)⟩ (
       .step ⟨(some 41), (some (38, true)), .nilck (.tmp 39)⟩ (
       .step ⟨(some 42), (some (38, true)), .faddr 5 (.tmp 41)⟩ (
       .step ⟨(some 43), (some (38, true)), .faddr 9 (.tmp 42)⟩ (
       .step ⟨(some 44), (some (38, true)), .iaddrA 9 1 (.tmp 43) (.tmp 40)⟩ (
       .step ⟨(some 45), (some (38, true)), .load false 1 (.tmp 44)⟩ (
       .step ⟨(some 46), (some (38, true)), .un .not (.tmp 45)⟩ (
       .step ⟨(some 47), none, .pick (.tmp 38) (.tmp 46) (.lit (.bool false))⟩ (
       .step ⟨(some 48), none, .mov (.tmp 47)⟩ (
       .step ⟨(some 49), (some (48, false)), .mov (.tmp 9)⟩ (
       .step ⟨(some 50), (some (48, false)), .un .not (.tmp 49)⟩ (
       .step ⟨(some 51), (some (48, false)), .mov (.tmp 50)⟩ (
       .step ⟨(some 52), (some (51, true)), .load false 1 (.tmp 1)⟩ (
       .step ⟨(some 53), (some (51, true)), .load false 1 (.tmp 2)⟩ (
       .step ⟨(some 54), (some (51, true)), .nilck (.tmp 52)⟩ (
       .step ⟨(some 55), (some (51, true)), .faddr 5 (.tmp 54)⟩ (
       .step ⟨(some 56), (some (51, true)), .faddr 18 (.tmp 55)⟩ (
       .step ⟨(some 57), (some (51, true)), .iaddrA 9 1 (.tmp 56) (.tmp 53)⟩ (
       .step ⟨(some 58), (some (51, true)), .load false 1 (.tmp 57)⟩ (
       .step ⟨(some 59), (some (51, true)), .un .not (.tmp 58)⟩ (
       .step ⟨(some 60), (some (48, false)), .pick (.tmp 51) (.tmp 59) (.lit (.bool false))⟩ (
       .step ⟨(some 61), none, .pick (.tmp 48) (.lit (.bool true)) (.tmp 60)⟩ (
       .done)))))))))))))))))))))))))))
    (.cond (.tmp 61) (.exit 1)
      (.skip)))
   (.seq (.reg [⟨(some 62), none, .mov (.tmp 0)⟩,
      ⟨(some 63), none, .load true 2 (.tmp 8)⟩,
      ⟨(some 64), none, .mov (.tmp 9)⟩,
      ⟨(some 65), none, .mov (.tmp 7)⟩,
      ⟨(some 66), none, .build [(.bool false), (.int .i64 0), (.bool false), (.int .i64 0)] [(0, 2, (.tmp 63)), (2, 1, (.tmp 64)), (3, 1, (.tmp 65))]⟩,
      ⟨(some 67), none, .call (.tmp 62) [(.tmp 66)]⟩,
      ⟨(some 68), none, .un .not (.tmp 67)⟩])
   (.cond (.tmp 68) (.ret)
     (.skip))))))))
  (.reg [⟨(some 69), none, .bin .add (.tmp 18) (.lit (.int .i64 1))⟩,
    ⟨(some 18), none, .mov (.tmp 69)⟩]))))))))))
theorem k87 : FnC Tryd.prog 87 70 [] [] [] c87 4 := ⟨Tryd.f87, _, Tryd.func87, rfl, by decide, rfl, by decide, by kernel_rfl, by kernel_rfl⟩
def c88 : AC :=
 .seq (.reg [⟨(some 4), none, .mov (.lit (.bool false))⟩])
 (.seq (.reg [⟨(some 5), none, .mov (.tmp 0)⟩,
    ⟨(some 6), none, .mov (.tmp 1)⟩,
    ⟨(some 7), none, .bin .shr (.tmp 5) (.tmp 6)⟩,
    ⟨(some 8), none, .bin .and (.tmp 7) (.lit (.int .i64 1))⟩,
    ⟨(some 9), none, .bin .eql (.tmp 8) (.lit (.int .i64 1))⟩,
    ⟨(some 4), none, .mov (.tmp 9)⟩])
 (.ret))
theorem k88 : FnC Tryd.prog 88 10 [] [] [.tmp 4] c88 2 := ⟨Tryd.f88, _, Tryd.func88, rfl, by decide, rfl, by decide, by kernel_rfl, by kernel_rfl⟩
def c89 : AC :=
 .seq (.reg [⟨(some 3), none, .box (.tmp 0)⟩,
    ⟨(some 6), none, .alloc [(.bool false), (.int .i64 0)]⟩,
    ⟨(some 7), none, .mov (.lit (.bool false))⟩])
 (.seq (.seq (.reg [⟨(some 8), none, .mov (.tmp 1)⟩,
     ⟨(some 9), none, .bin .eql (.tmp 8) (.lit (.int .i64 2))⟩])
  (.cond (.tmp 9) (.seq (.reg [⟨(some 10), none, .build [(.bool false), (.int .i64 0)] [(0, 1, (.lit (.bool true)))]⟩,
      ⟨none, none, .store 2 (.tmp 6) (.tmp 10)⟩,
      ⟨(some 7), none, .mov (.lit (.bool true))⟩])
   (.ret))
    (.skip)))
 (.seq (.seq (.reg [⟨(some 11), none, .faddr 0 (.tmp 3)⟩,
     ⟨(some 12), none, .load false 1 (.tmp 11)⟩,
     ⟨(some 13), none, .un .not (.tmp 12)⟩,
     ⟨(some 14), none, .mov (.tmp 13)⟩,
     ⟨(some 15), (some (14, false)), .mov (.tmp 1)⟩,
     ⟨(some 16), (some (14, false)), .bin .eql (.tmp 15) (.lit (.int .i64 1))⟩,
     ⟨(some 17), none, .pick (.tmp 14) (.lit (.bool true)) (.tmp 16)⟩])
  (.cond (.tmp 17) (.seq (.draw (.step ⟨(some 18), none, .faddr 0 (.tmp 3)⟩ (
      .step ⟨(some 19), none, .load false 1 (.tmp 18)⟩ (
      .step ⟨(some 20), none, .build [(.bool false), (.int .i64 0)] [(0, 1, (.tmp 19))]⟩ (
      .step ⟨(some 21), none, .faddr 0 (.tmp 3)⟩ (
      .step ⟨(some 22), none, .load false 1 (.tmp 21)⟩ (
      .ev ⟨none, none, .store 2 (.tmp 6) (.tmp 20)⟩ [⟨(some 22), none, .load false 1 (.tmp 21)⟩, ⟨(some 21), none, .faddr 0 (.tmp 3)⟩] (
      .step ⟨(some 7), none, .mov (.tmp 22)⟩ (
       .done))
      (.stop))))))))
   (.ret))
    (.skip)))
 (.seq (.seq (.reg [⟨(some 23), none, .faddr 1 (.tmp 3)⟩,
     ⟨(some 24), none, .load false 1 (.tmp 23)⟩,
     ⟨(some 25), none, .bin .add (.tmp 24) (.lit (.int .i64 1))⟩,
     ⟨(some 26), none, .faddr 1 (.tmp 3)⟩,
     ⟨none, none, .store 1 (.tmp 26) (.tmp 25)⟩])
  (.seq (.reg [⟨(some 27), none, .faddr 1 (.tmp 3)⟩,
     ⟨(some 28), none, .load false 1 (.tmp 27)⟩,
     ⟨(some 29), none, .mov (.tmp 2)⟩,
     ⟨(some 30), none, .bin .eql (.tmp 28) (.tmp 29)⟩])
  (.cond (.tmp 30) (.seq (.reg [⟨(some 31), none, .build [(.bool false), (.int .i64 0)] []⟩,
      ⟨none, none, .store 2 (.tmp 6) (.tmp 31)⟩,
      ⟨(some 7), none, .mov (.lit (.bool true))⟩])
   (.ret))
    (.skip))))
 (.seq (.reg [⟨(some 32), none, .load true 2 (.tmp 3)⟩,
    ⟨none, none, .store 2 (.tmp 6) (.tmp 32)⟩,
    ⟨(some 7), none, .mov (.lit (.bool true))⟩])
 (.ret)))))
theorem k89 : FnC Tryd.prog 89 33 [6] [] [.cell 6 true 2, .tmp 7] c89 3 := ⟨Tryd.f89, _, Tryd.func89, rfl, by decide, rfl, by decide, by kernel_rfl, by kernel_rfl⟩
def c105 : AC :=
 .seq (.reg [⟨(some 3), none, .box (.tmp 0)⟩,
    ⟨(some 4), none, .box (.tmp 1)⟩,
    ⟨(some 6), none, .mov (.lit (.int .i64 0))⟩])
 (.seq (.seq (.reg [⟨(some 7), none, .faddr 2 (.tmp 4)⟩,
     ⟨(some 8), none, .load false 1 (.tmp 7)⟩,
     ⟨(some 9), none, .mov (.tmp 8)⟩,
     ⟨(some 10), (some (9, true)), .faddr 0 (.tmp 3)⟩,
     ⟨(some 11), (some (9, true)), .load false 1 (.tmp 10)⟩,
     ⟨(some 12), (some (9, true)), .mov (.tmp 2)⟩,
     ⟨(some 13), (some (9, true)), .bin .leq (.tmp 11) (.tmp 12)⟩,
     ⟨(some 14), none, .pick (.tmp 9) (.tmp 13) (.lit (.bool false))⟩,
     ⟨(some 15), none, .mov (.tmp 14)⟩,
     ⟨(some 16), (some (15, true)), .mov (.tmp 2)⟩,
     ⟨(some 17), (some (15, true)), .faddr 1 (.tmp 3)⟩,
     ⟨(some 18), (some (15, true)), .load false 1 (.tmp 17)⟩,
     ⟨(some 19), (some (15, true)), .bin .lss (.tmp 16) (.tmp 18)⟩,
     ⟨(some 20), none, .pick (.tmp 15) (.tmp 19) (.lit (.bool false))⟩])
  (.cond (.tmp 20) (.seq (.reg [⟨(some 6), none, .mov (.lit (.int .i64 1))⟩])
   (.ret))
    (.skip)))
 (.seq (.reg [⟨(some 6), none, .mov (.lit (.int .i64 0))⟩])
 (.ret)))
theorem k105 : FnC Tryd.prog 105 21 [] [] [.tmp 6] c105 3 := ⟨Tryd.f105, _, Tryd.func105, rfl, by decide, rfl, by decide, by kernel_rfl, by kernel_rfl⟩
def c106 : AC :=
 .seq (.reg [⟨(some 3), none, .box (.tmp 0)⟩,
    ⟨(some 4), none, .box (.tmp 1)⟩,
    ⟨(some 6), none, .mov (.lit (.int .i64 0))⟩])
 (.seq (.seq (.reg [⟨(some 7), none, .mov (.tmp 2)⟩,
     ⟨(some 8), none, .faddr 0 (.tmp 3)⟩,
     ⟨(some 9), none, .load false 1 (.tmp 8)⟩,
     ⟨(some 10), none, .bin .eql (.tmp 7) (.tmp 9)⟩,
     ⟨(some 11), none, .mov (.tmp 10)⟩,
     ⟨(some 12), (some (11, true)), .faddr 3 (.tmp 4)⟩,
     ⟨(some 13), (some (11, true)), .load false 1 (.tmp 12)⟩,
     ⟨(some 14), (some (11, true)), .faddr 1 (.tmp 3)⟩,
     ⟨(some 15), (some (11, true)), .load false 1 (.tmp 14)⟩,
     ⟨(some 16), (some (11, true)), .bin .neq (.tmp 13) (.tmp 15)⟩,
     ⟨(some 17), none, .pick (.tmp 11) (.tmp 16) (.lit (.bool false))⟩])
  (.cond (.tmp 17) (.seq (.reg [⟨(some 6), none, .mov (.lit (.int .i64 0))⟩])
   (.ret))
    (.skip)))
 (.seq (.reg [⟨(some 6), none, .mov (.lit (.int .i64 1))⟩])
 (.ret)))
theorem k106 : FnC Tryd.prog 106 18 [] [] [.tmp 6] c106 3 := ⟨Tryd.f106, _, Tryd.func106, rfl, by decide, rfl, by decide, by kernel_rfl, by kernel_rfl⟩
end Go.Proofs.YtkbjodmpmmnhgaaDoor
