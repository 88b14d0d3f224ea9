/- Proved here: laws that the statements need (TwC4). No conditions but those that each law states. -/
import Derived.Test.YticdacdflemoiaaLF

set_option linter.unusedSimpArgs false
set_option linter.unusedVariables false

/- Compiled code of functions, printed by program; each is checked to be the program's. No conditions. -/
namespace Go.Proofs.Yticdacdflemoiaa
open Go Go.Ab
def c33 : AC :=
 .seq (.reg [⟨(some 3), none, .box (.tmp 1)⟩,
    ⟨(some 4), none, .mov (.lit (.bool false))⟩])
 (.seq (.reg [⟨(some 5), none, .faddr 0 (.tmp 3)⟩,
    ⟨(some 6), none, .load false 1 (.tmp 5)⟩,
    ⟨(some 7), none, .mov (.tmp 0)⟩,
    ⟨(some 8), none, .bin .leq (.tmp 6) (.tmp 7)⟩,
    ⟨(some 9), none, .mov (.tmp 8)⟩,
    ⟨(some 10), (some (9, true)), .mov (.tmp 0)⟩,
    ⟨(some 11), (some (9, true)), .faddr 1 (.tmp 3)⟩,
    ⟨(some 12), (some (9, true)), .load false 1 (.tmp 11)⟩,
    ⟨(some 13), (some (9, true)), .bin .leq (.tmp 10) (.tmp 12)⟩,
    ⟨(some 14), none, .pick (.tmp 9) (.tmp 13) (.lit (.bool false))⟩,
    ⟨(some 4), none, .mov (.tmp 14)⟩])
 (.ret))
theorem k33 : FnC Try.prog 33 15 [] [] [.tmp 4] c33 2 := ⟨Try.f33, _, Try.func33, rfl, by decide, rfl, by decide, by kernel_rfl, by kernel_rfl⟩
def c36 : AC :=
 .seq (.reg [⟨(some 3), none, .box (.tmp 0)⟩,
    ⟨(some 6), none, .alloc [(.slice none 0 0), (.slice none 0 0), (.slice none 0 0)]⟩])
 (.seq (.reg [⟨(some 8), none, .load true 3 (.tmp 3)⟩,
    ⟨(some 7), none, .alloc [(.slice none 0 0), (.slice none 0 0), (.slice none 0 0)]⟩,
    ⟨none, none, .store 3 (.tmp 7) (.tmp 8)⟩])
 (.seq (.reg [⟨(some 9), none, .bslice 6 (.agg #[(.int .i64 0), (.int .i64 0), (.int .i64 0), (.int .i64 0), (.int .i64 0), (.int .i64 0)]) 0 []⟩,
    ⟨(some 10), none, .faddr 0 (.tmp 3)⟩,
    ⟨(some 11), none, .load false 1 (.tmp 10)⟩,
    ⟨(some 12), none, .app 6 48 (.tmp 9) (.tmp 11)⟩,
    ⟨(some 13), none, .faddr 0 (.tmp 7)⟩,
    ⟨none, none, .store 1 (.tmp 13) (.tmp 12)⟩])
 (.seq (.draw (.step ⟨(some 14), none, .faddr 0 (.tmp 7)⟩ (
    .step ⟨(some 15), none, .load false 1 (.tmp 14)⟩ (
    .step ⟨(some 16), none, .mov (.tmp 1)⟩ (
    .step ⟨(some 17), none, .faddr 0 (.tmp 7)⟩ (
    .step ⟨(some 18), none, .load false 1 (.tmp 17)⟩ (
    .step ⟨(some 19), none, .mov (.tmp 1)⟩ (
    .step ⟨(some 20), none, .mov (.tmp 2)⟩ (
    .step ⟨(some 21), none, .mov (.tmp 2)⟩ (
    .ev ⟨(some 22), none, .call (.fn 42) [(.tmp 20), (.tmp 21)]⟩ [⟨(some 18), none, .load false 1 (.tmp 17)⟩, ⟨(some 17), none, .faddr 0 (.tmp 7)⟩, ⟨(some 15), none, .load false 1 (.tmp 14)⟩, ⟨(some 14), none, .faddr 0 (.tmp 7)⟩] (
    .ev ⟨(some 23), none, .call (.fn 42) [(.lit (.int .i64 0)), (.lit (.int .i64 0))]⟩ [⟨(some 18), none, .load false 1 (.tmp 17)⟩, ⟨(some 17), none, .faddr 0 (.tmp 7)⟩, ⟨(some 15), none, .load false 1 (.tmp 14)⟩, ⟨(some 14), none, .faddr 0 (.tmp 7)⟩] (
     .step ⟨(some 24), none, .iaddr 6 (.tmp 15) (.tmp 16)⟩ (
      .step ⟨(some 25), none, .faddr 2 (.tmp 24)⟩ (
      .ev ⟨none, none, .store 2 (.tmp 25) (.tmp 22)⟩ [⟨(some 24), none, .iaddr 6 (.tmp 15) (.tmp 16)⟩, ⟨(some 18), none, .load false 1 (.tmp 17)⟩, ⟨(some 17), none, .faddr 0 (.tmp 7)⟩] (
      .step ⟨(some 26), none, .iaddr 6 (.tmp 18) (.tmp 19)⟩ (
       .step ⟨(some 27), none, .faddr 4 (.tmp 26)⟩ (
       .ev ⟨none, none, .store 2 (.tmp 27) (.tmp 23)⟩ [⟨(some 26), none, .iaddr 6 (.tmp 18) (.tmp 19)⟩] (
       .done)
       (.stop))))
      (.stop))))
     (.stop))
    (.stop)))))))))))
 (.seq (.reg [⟨(some 28), none, .load true 3 (.tmp 7)⟩,
    ⟨none, none, .store 3 (.tmp 6) (.tmp 28)⟩])
 (.ret)))))
theorem k36 : FnC Try.prog 36 29 [6] [] [.cell 6 true 3] c36 3 := ⟨Try.f36, _, Try.func36, rfl, by decide, rfl, by decide, by kernel_rfl, by kernel_rfl⟩
def c37 : AC :=
 .seq (.reg [⟨(some 1), none, .box (.tmp 0)⟩,
    ⟨(some 2), none, .mov (.lit (.bool false))⟩])
 (.seq (.reg [⟨(some 3), none, .load true 3 (.tmp 1)⟩,
    ⟨(some 4), none, .call (.fn 34) [(.tmp 3)]⟩,
    ⟨(some 5), none, .un .not (.tmp 4)⟩,
    ⟨(some 6), none, .mov (.tmp 5)⟩,
    ⟨(some 7), (some (6, true)), .load true 3 (.tmp 1)⟩,
    ⟨(some 8), (some (6, true)), .call (.fn 35) [(.tmp 7)]⟩,
    ⟨(some 9), none, .pick (.tmp 6) (.tmp 8) (.lit (.bool false))⟩,
    ⟨(some 2), none, .mov (.tmp 9)⟩])
 (.ret))
theorem k37 : FnC Try.prog 37 10 [] [] [.tmp 2] c37 1 := ⟨Try.f37, _, Try.func37, rfl, by decide, rfl, by decide, by kernel_rfl, by kernel_rfl⟩
def c38 : AC :=
 .seq (.reg [⟨(some 3), none, .mov (.lit (.bool false))⟩])
 (.seq (.reg [⟨(some 9), none, .load true 3 (.tmp 1)⟩,
    ⟨(some 10), none, .mov (.tmp 0)⟩,
    ⟨(some 11), none, .call (.fn 39) [(.tmp 9), (.tmp 10)]⟩,
    ⟨(some 8), none, .mov (.tmp 11)⟩,
    ⟨(some 12), none, .ext (.tmp 8) 0⟩,
    ⟨(some 13), none, .ext (.tmp 8) 1⟩,
    ⟨(some 4), none, .alloc [(.slice none 0 0), (.slice none 0 0), (.slice none 0 0)]⟩,
    ⟨none, none, .store 3 (.tmp 4) (.tmp 12)⟩,
    ⟨(some 5), none, .mov (.tmp 13)⟩])
 (.seq (.reg [⟨(some 15), none, .load true 3 (.tmp 4)⟩,
    ⟨(some 16), none, .call (.fn 23) [(.tmp 15)]⟩,
    ⟨(some 14), none, .mov (.tmp 16)⟩,
    ⟨(some 17), none, .ext (.tmp 14) 0⟩,
    ⟨(some 18), none, .ext (.tmp 14) 1⟩,
    ⟨(some 6), none, .mov (.tmp 17)⟩,
    ⟨(some 7), none, .mov (.tmp 18)⟩])
 (.seq (.reg [⟨(some 19), none, .mov (.tmp 5)⟩,
    ⟨(some 20), none, .mov (.tmp 19)⟩,
    ⟨(some 21), (some (20, true)), .mov (.tmp 7)⟩,
    ⟨(some 22), (some (20, true)), .bin .eql (.tmp 21) (.lit (.int .i64 0))⟩,
    ⟨(some 23), none, .pick (.tmp 20) (.tmp 22) (.lit (.bool false))⟩,
    ⟨(some 24), none, .mov (.tmp 23)⟩,
    ⟨(some 25), (some (24, true)), .mov (.tmp 6)⟩,
    ⟨(some 26), (some (24, true)), .bin .gtr (.tmp 25) (.lit (.int .i64 0))⟩,
    ⟨(some 27), none, .pick (.tmp 24) (.tmp 26) (.lit (.bool false))⟩,
    ⟨(some 3), none, .mov (.tmp 27)⟩])
 (.ret))))
theorem k38 : FnC Try.prog 38 28 [] [] [.tmp 3] c38 2 := ⟨Try.f38, _, Try.func38, rfl, by decide, rfl, by decide, by kernel_rfl, by kernel_rfl⟩
def c39 : AC :=
 .seq (.reg [⟨(some 2), none, .box (.tmp 0)⟩,
    ⟨(some 4), none, .alloc [(.slice none 0 0), (.slice none 0 0), (.slice none 0 0)]⟩,
    ⟨(some 5), none, .mov (.lit (.bool false))⟩])
 (.seq (.reg [⟨(some 10), none, .load true 3 (.tmp 2)⟩,
    ⟨(some 6), none, .alloc [(.slice none 0 0), (.slice none 0 0), (.slice none 0 0)]⟩,
    ⟨none, none, .store 3 (.tmp 6) (.tmp 10)⟩,
    ⟨(some 7), none, .mov (.lit (.bool true))⟩])
 (.seq (.reg [⟨(some 11), none, .bslice 6 (.agg #[(.int .i64 0), (.int .i64 0), (.int .i64 0), (.int .i64 0), (.int .i64 0), (.int .i64 0)]) 0 []⟩,
    ⟨(some 12), none, .faddr 0 (.tmp 2)⟩,
    ⟨(some 13), none, .load false 1 (.tmp 12)⟩,
    ⟨(some 14), none, .app 6 48 (.tmp 11) (.tmp 13)⟩,
    ⟨(some 15), none, .faddr 0 (.tmp 6)⟩,
    ⟨none, none, .store 1 (.tmp 15) (.tmp 14)⟩])
 (.seq (.seq (.reg [⟨(some 16), none, .faddr 0 (.tmp 6)⟩,
     ⟨(some 17), none, .load false 1 (.tmp 16)⟩,
     ⟨(some 18), none, .len (.tmp 17)⟩,
     ⟨(some 19), none, .mov (.lit (.int .i64 0))⟩])
  (.block 0 (.loop (.seq (.reg [⟨(some 20), none, .bin .lss (.tmp 19) (.tmp 18)⟩])
   (.seq (.cond (.tmp 20) (.skip)
      (.exit 0))
   (.seq (.block 1 (.seq (.reg [⟨(some 21), none, .mov (.tmp 19)⟩,
       ⟨(some 22), none, .iaddr 6 (.tmp 17) (.tmp 19)⟩,
       ⟨(some 23), none, .load true 6 (.tmp 22)⟩,
       ⟨(some 9), none, .alloc [(.int .i64 0), (.int .i64 0), (.int .i64 0), (.int .i64 0), (.int .i64 0), (.int .i64 0)]⟩,
       ⟨(some 8), none, .mov (.tmp 21)⟩,
       ⟨none, none, .store 6 (.tmp 9) (.tmp 23)⟩])
    (.seq (.reg [⟨(some 24), none, .mov (.tmp 1)⟩,
       ⟨(some 25), none, .mov (.tmp 8)⟩,
       ⟨(some 26), none, .bin .shr (.tmp 24) (.tmp 25)⟩,
       ⟨(some 27), none, .bin .and (.tmp 26) (.lit (.int .i64 1))⟩,
       ⟨(some 28), none, .bin .eql (.tmp 27) (.lit (.int .i64 0))⟩])
    (.cond (.tmp 28) (.seq (.reg [⟨(some 29), none, .mov (.tmp 7)⟩,
        ⟨(some 30), none, .mov (.tmp 29)⟩,
        ⟨(some 31), (some (30, true)), .faddr 2 (.tmp 9)⟩,
        ⟨(some 32), (some (30, true)), .faddr 0 (.tmp 31)⟩,
        ⟨(some 33), (some (30, true)), .load false 1 (.tmp 32)⟩,
        ⟨(some 34), (some (30, true)), .faddr 4 (.tmp 9)⟩,
        ⟨(some 35), (some (30, true)), .faddr 1 (.tmp 34)⟩,
        ⟨(some 36), (some (30, true)), .load false 1 (.tmp 35)⟩,
        ⟨(some 37), (some (30, true)), .bin .leq (.tmp 33) (.tmp 36)⟩,
        ⟨(some 38), none, .pick (.tmp 30) (.tmp 37) (.lit (.bool false))⟩,
        ⟨(some 7), none, .mov (.tmp 38)⟩])
     (.draw (.step ⟨(some 39), none, .faddr 0 (.tmp 6)⟩ (
       .step ⟨(some 40), none, .load false 1 (.tmp 39)⟩ (
       .step ⟨(some 41), none, .mov (.tmp 8)⟩ (
       .step ⟨(some 42), none, .faddr 0 (.tmp 6)⟩ (
       .step ⟨(some 43), none, .load false 1 (.tmp 42)⟩ (
       .step ⟨(some 44), none, .mov (.tmp 8)⟩ (
       .ev ⟨(some 45), none, .call (.fn 42) [(.lit (.int .i64 0)), (.lit (.int .i64 0))]⟩ [⟨(some 43), none, .load false 1 (.tmp 42)⟩, ⟨(some 42), none, .faddr 0 (.tmp 6)⟩, ⟨(some 40), none, .load false 1 (.tmp 39)⟩, ⟨(some 39), none, .faddr 0 (.tmp 6)⟩] (
       .ev ⟨(some 46), none, .call (.fn 42) [(.lit (.int .i64 0)), (.lit (.int .i64 0))]⟩ [⟨(some 43), none, .load false 1 (.tmp 42)⟩, ⟨(some 42), none, .faddr 0 (.tmp 6)⟩, ⟨(some 40), none, .load false 1 (.tmp 39)⟩, ⟨(some 39), none, .faddr 0 (.tmp 6)⟩] (
        .step ⟨(some 47), none, .iaddr 6 (.tmp 40) (.tmp 41)⟩ (
         .step ⟨(some 48), none, .faddr 2 (.tmp 47)⟩ (
         .ev ⟨none, none, .store 2 (.tmp 48) (.tmp 45)⟩ [⟨(some 47), none, .iaddr 6 (.tmp 40) (.tmp 41)⟩, ⟨(some 43), none, .load false 1 (.tmp 42)⟩, ⟨(some 42), none, .faddr 0 (.tmp 6)⟩] (
         .step ⟨(some 49), none, .iaddr 6 (.tmp 43) (.tmp 44)⟩ (
          .step ⟨(some 50), none, .faddr 4 (.tmp 49)⟩ (
          .ev ⟨none, none, .store 2 (.tmp 50) (.tmp 46)⟩ [⟨(some 49), none, .iaddr 6 (.tmp 43) (.tmp 44)⟩] (
          .done)
          (.stop))))
         (.stop))))
        (.stop))
       (.stop))))))))))
      (.skip)))))
   (.reg [⟨(some 51), none, .bin .add (.tmp 19) (.lit (.int .i64 1))⟩,
     ⟨(some 19), none, .mov (.tmp 51)⟩])))))))
 (.seq (.reg [⟨(some 52), none, .load true 3 (.tmp 6)⟩,
    ⟨(some 53), none, .mov (.tmp 7)⟩,
    ⟨none, none, .store 3 (.tmp 4) (.tmp 52)⟩,
    ⟨(some 5), none, .mov (.tmp 53)⟩])
 (.ret)))))
theorem k39 : FnC Try.prog 39 54 [4] [] [.cell 4 true 3, .tmp 5] c39 2 := ⟨Try.f39, _, Try.func39, rfl, by decide, rfl, by decide, by kernel_rfl, by kernel_rfl⟩
def c40 : AC :=
 .seq (.reg [⟨(some 2), none, .box (.tmp 0)⟩,
    ⟨(some 4), none, .mov (.lit (.int .i64 0))⟩])
 (.seq (.reg [⟨(some 12), none, .load true 3 (.tmp 2)⟩,
    ⟨(some 13), none, .mov (.tmp 1)⟩,
    ⟨(some 14), none, .call (.fn 15) [(.tmp 12), (.tmp 13)]⟩,
    ⟨(some 11), none, .mov (.tmp 14)⟩,
    ⟨(some 15), none, .ext (.tmp 11) 0⟩,
    ⟨(some 16), none, .ext (.tmp 11) 1⟩,
    ⟨(some 5), none, .alloc [(.int .i64 0), (.int .i64 0)]⟩,
    ⟨none, none, .store 2 (.tmp 5) (.tmp 15)⟩,
    ⟨(some 6), none, .mov (.tmp 16)⟩])
 (.seq (.reg [⟨(some 7), none, .mov (.lit (.int .i64 (-1)))⟩])
 (.seq (.seq (.reg [⟨(some 17), none, .faddr 0 (.tmp 5)⟩,
     ⟨(some 18), none, .load false 1 (.tmp 17)⟩,
     ⟨(some 8), none, .mov (.tmp 18)⟩])
  (.block 0 (.loop (.seq (.seq (.reg [⟨(some 19), none, .mov (.tmp 8)⟩,
       ⟨(some 20), none, .faddr 1 (.tmp 5)⟩,
       ⟨(some 21), none, .load false 1 (.tmp 20)⟩,
       ⟨(some 22), none, .bin .leq (.tmp 19) (.tmp 21)⟩,
       ⟨(some 23), none, .mov (.tmp 22)⟩,
       ⟨(some 24), (some (23, true)), .mov (.tmp 6)⟩,
       ⟨(some 25), (some (23, true)), .bin .eql (.tmp 24) (.lit (.int .i64 0))⟩,
       ⟨(some 26), none, .pick (.tmp 23) (.tmp 25) (.lit (.bool false))⟩])
    (.cond (.tmp 26) (.skip)
      (.exit 0)))
   (.seq (.block 1 (.seq (.reg [⟨(some 30), none, .load true 3 (.tmp 2)⟩,
       ⟨(some 31), none, .mov (.tmp 1)⟩,
       ⟨(some 32), none, .mov (.tmp 8)⟩,
       ⟨(some 33), none, .call (.fn 36) [(.tmp 30), (.tmp 31), (.tmp 32)]⟩,
       ⟨(some 34), none, .call (.fn 23) [(.tmp 33)]⟩,
       ⟨(some 29), none, .mov (.tmp 34)⟩,
       ⟨(some 35), none, .ext (.tmp 29) 0⟩,
       ⟨(some 36), none, .ext (.tmp 29) 1⟩,
       ⟨(some 9), none, .mov (.tmp 35)⟩,
       ⟨(some 10), none, .mov (.tmp 36)⟩])
    (.seq (.seq (.reg [⟨(some 37), none, .mov (.tmp 10)⟩,
        ⟨(some 38), none, .bin .neq (.tmp 37) (.lit (.int .i64 0))⟩])
     (.cond (.tmp 38) (.seq (.reg [⟨(some 4), none, .mov (.lit (.int .i64 (-1)))⟩])
      (.ret))
       (.skip)))
    (.reg [⟨(some 39), none, .mov (.tmp 7)⟩,
      ⟨(some 40), none, .mov (.tmp 9)⟩,
      ⟨(some 41), none, .mxmn true (.tmp 39) [(.tmp 40)]⟩,
      ⟨(some 7), none, .mov (.tmp 41)⟩]))))
   (.reg [⟨(some 27), none, .mov (.tmp 8)⟩,
     ⟨(some 28), none, .bin .add (.tmp 27) (.lit (.int .i64 1))⟩,
     ⟨(some 8), none, .mov (.tmp 28)⟩]))))))
 (.seq (.reg [⟨(some 42), none, .mov (.tmp 7)⟩,
    ⟨(some 4), none, .mov (.tmp 42)⟩])
 (.ret)))))
theorem k40 : FnC Try.prog 40 43 [] [] [.tmp 4] c40 2 := ⟨Try.f40, _, Try.func40, rfl, by decide, rfl, by decide, by kernel_rfl, by kernel_rfl⟩
def c41 : AC :=
 .seq (.reg [⟨(some 5), none, .mov (.lit (.bool false))⟩])
 (.seq (.reg [⟨(some 11), none, .load true 3 (.tmp 2)⟩,
    ⟨(some 6), none, .alloc [(.slice none 0 0), (.slice none 0 0), (.slice none 0 0)]⟩,
    ⟨none, none, .store 3 (.tmp 6) (.tmp 11)⟩])
 (.seq (.draw (.step ⟨(some 13), none, .faddr 1 (.tmp 2)⟩ (
    .step ⟨(some 14), none, .load false 1 (.tmp 13)⟩ (
    .step ⟨(some 17), none, .faddr 2 (.tmp 2)⟩ (
    .step ⟨(some 18), none, .load false 1 (.tmp 17)⟩ (
    .ev ⟨(some 12), none, .bslice 2 (.agg #[(.int .i64 0), (.int .i64 0)]) 0 []⟩ [⟨(some 18), none, .load false 1 (.tmp 17)⟩, ⟨(some 17), none, .faddr 2 (.tmp 2)⟩, ⟨(some 14), none, .load false 1 (.tmp 13)⟩, ⟨(some 13), none, .faddr 1 (.tmp 2)⟩] (
    .ev ⟨(some 15), none, .app 2 16 (.tmp 12) (.tmp 14)⟩ [⟨(some 18), none, .load false 1 (.tmp 17)⟩, ⟨(some 17), none, .faddr 2 (.tmp 2)⟩, ⟨(some 13), none, .faddr 1 (.tmp 2)⟩] (
     .step ⟨(some 20), none, .faddr 1 (.tmp 6)⟩ (
      .ev ⟨(some 16), none, .bslice 2 (.agg #[(.int .i64 0), (.int .i64 0)]) 0 []⟩ [⟨(some 20), none, .faddr 1 (.tmp 6)⟩, ⟨(some 18), none, .load false 1 (.tmp 17)⟩, ⟨(some 17), none, .faddr 2 (.tmp 2)⟩, ⟨(some 14), none, .load false 1 (.tmp 13)⟩, ⟨(some 13), none, .faddr 1 (.tmp 2)⟩] (
      .ev ⟨(some 19), none, .app 2 16 (.tmp 16) (.tmp 18)⟩ [⟨(some 20), none, .faddr 1 (.tmp 6)⟩, ⟨(some 17), none, .faddr 2 (.tmp 2)⟩, ⟨(some 14), none, .load false 1 (.tmp 13)⟩, ⟨(some 13), none, .faddr 1 (.tmp 2)⟩] (
       .ev ⟨none, none, .store 1 (.tmp 20) (.tmp 15)⟩ [⟨(some 18), none, .load false 1 (.tmp 17)⟩, ⟨(some 17), none, .faddr 2 (.tmp 2)⟩] (
        .step ⟨(some 21), none, .faddr 2 (.tmp 6)⟩ (
         .ev ⟨none, none, .store 1 (.tmp 21) (.tmp 19)⟩ [] (
         .done)
         (.stop)))
        (.stop))
       (.stop))
      (.stop)))
     (.ev ⟨(some 16), none, .bslice 2 (.agg #[(.int .i64 0), (.int .i64 0)]) 0 []⟩ [⟨(some 18), none, .load false 1 (.tmp 17)⟩, ⟨(some 17), none, .faddr 2 (.tmp 2)⟩, ⟨(some 14), none, .load false 1 (.tmp 13)⟩, ⟨(some 13), none, .faddr 1 (.tmp 2)⟩] (
     .ev ⟨(some 15), none, .app 2 16 (.tmp 12) (.tmp 14)⟩ [⟨(some 18), none, .load false 1 (.tmp 17)⟩, ⟨(some 17), none, .faddr 2 (.tmp 2)⟩, ⟨(some 13), none, .faddr 1 (.tmp 2)⟩] (
      .step ⟨(some 20), none, .faddr 1 (.tmp 6)⟩ (
       .ev ⟨(some 19), none, .app 2 16 (.tmp 16) (.tmp 18)⟩ [⟨(some 20), none, .faddr 1 (.tmp 6)⟩, ⟨(some 17), none, .faddr 2 (.tmp 2)⟩, ⟨(some 14), none, .load false 1 (.tmp 13)⟩, ⟨(some 13), none, .faddr 1 (.tmp 2)⟩] (
       .ev ⟨none, none, .store 1 (.tmp 20) (.tmp 15)⟩ [⟨(some 18), none, .load false 1 (.tmp 17)⟩, ⟨(some 17), none, .faddr 2 (.tmp 2)⟩] (
        .step ⟨(some 21), none, .faddr 2 (.tmp 6)⟩ (
         .ev ⟨none, none, .store 1 (.tmp 21) (.tmp 19)⟩ [] (
         .done)
         (.stop)))
        (.stop))
       (.stop)))
      (.stop))
     (.stop)))
    (.ev ⟨(some 16), none, .bslice 2 (.agg #[(.int .i64 0), (.int .i64 0)]) 0 []⟩ [⟨(some 18), none, .load false 1 (.tmp 17)⟩, ⟨(some 17), none, .faddr 2 (.tmp 2)⟩, ⟨(some 14), none, .load false 1 (.tmp 13)⟩, ⟨(some 13), none, .faddr 1 (.tmp 2)⟩] (
    .ev ⟨(some 12), none, .bslice 2 (.agg #[(.int .i64 0), (.int .i64 0)]) 0 []⟩ [⟨(some 18), none, .load false 1 (.tmp 17)⟩, ⟨(some 17), none, .faddr 2 (.tmp 2)⟩, ⟨(some 14), none, .load false 1 (.tmp 13)⟩, ⟨(some 13), none, .faddr 1 (.tmp 2)⟩] (
     .ev ⟨(some 15), none, .app 2 16 (.tmp 12) (.tmp 14)⟩ [⟨(some 18), none, .load false 1 (.tmp 17)⟩, ⟨(some 17), none, .faddr 2 (.tmp 2)⟩, ⟨(some 13), none, .faddr 1 (.tmp 2)⟩] (
      .step ⟨(some 20), none, .faddr 1 (.tmp 6)⟩ (
       .ev ⟨(some 19), none, .app 2 16 (.tmp 16) (.tmp 18)⟩ [⟨(some 20), none, .faddr 1 (.tmp 6)⟩, ⟨(some 17), none, .faddr 2 (.tmp 2)⟩, ⟨(some 14), none, .load false 1 (.tmp 13)⟩, ⟨(some 13), none, .faddr 1 (.tmp 2)⟩] (
       .ev ⟨none, none, .store 1 (.tmp 20) (.tmp 15)⟩ [⟨(some 18), none, .load false 1 (.tmp 17)⟩, ⟨(some 17), none, .faddr 2 (.tmp 2)⟩] (
        .step ⟨(some 21), none, .faddr 2 (.tmp 6)⟩ (
         .ev ⟨none, none, .store 1 (.tmp 21) (.tmp 19)⟩ [] (
         .done)
         (.stop)))
        (.stop))
       (.stop)))
      (.stop))
     (.stop))
    (.stop))))))))
 (.seq (.seq (.reg [⟨(some 22), none, .faddr 1 (.tmp 6)⟩,
     ⟨(some 23), none, .load false 1 (.tmp 22)⟩,
     ⟨(some 24), none, .len (.tmp 23)⟩,
     ⟨(some 25), none, .mov (.lit (.int .i64 0))⟩])
  (.block 0 (.loop (.seq (.reg [⟨(some 26), none, .bin .lss (.tmp 25) (.tmp 24)⟩])
   (.seq (.cond (.tmp 26) (.skip)
      (.exit 0))
   (.seq (.block 1 (.seq (.reg [⟨(some 27), none, .mov (.tmp 25)⟩,
       ⟨(some 7), none, .mov (.tmp 27)⟩])
    (.seq (.reg [⟨(some 28), none, .mov (.tmp 0)⟩,
       ⟨(some 29), none, .mov (.tmp 7)⟩,
       ⟨(some 30), none, .bin .shr (.tmp 28) (.tmp 29)⟩,
       ⟨(some 31), none, .bin .and (.tmp 30) (.lit (.int .i64 1))⟩,
       ⟨(some 32), none, .bin .eql (.tmp 31) (.lit (.int .i64 0))⟩])
    (.cond (.tmp 32) (.draw (.step ⟨(some 33), none, .faddr 1 (.tmp 6)⟩ (
       .step ⟨(some 34), none, .load false 1 (.tmp 33)⟩ (
       .step ⟨(some 35), none, .mov (.tmp 7)⟩ (
       .ev ⟨(some 36), none, .call (.fn 42) [(.lit (.int .i64 0)), (.lit (.int .i64 24))]⟩ [⟨(some 34), none, .load false 1 (.tmp 33)⟩, ⟨(some 33), none, .faddr 1 (.tmp 6)⟩] (
       .step ⟨(some 37), none, .iaddr 2 (.tmp 34) (.tmp 35)⟩ (
        .ev ⟨none, none, .store 2 (.tmp 37) (.tmp 36)⟩ [] (
        .done)
        (.stop)))
       (.stop))))))
      (.skip)))))
   (.reg [⟨(some 38), none, .bin .add (.tmp 25) (.lit (.int .i64 1))⟩,
     ⟨(some 25), none, .mov (.tmp 38)⟩])))))))
 (.seq (.seq (.reg [⟨(some 39), none, .faddr 2 (.tmp 6)⟩,
     ⟨(some 40), none, .load false 1 (.tmp 39)⟩,
     ⟨(some 41), none, .len (.tmp 40)⟩,
     ⟨(some 42), none, .mov (.lit (.int .i64 0))⟩])
  (.block 2 (.loop (.seq (.reg [⟨(some 43), none, .bin .lss (.tmp 42) (.tmp 41)⟩])
   (.seq (.cond (.tmp 43) (.skip)
      (.exit 2))
   (.seq (.block 3 (.seq (.reg [⟨(some 44), none, .mov (.tmp 42)⟩,
       ⟨(some 8), none, .mov (.tmp 44)⟩])
    (.seq (.reg [⟨(some 45), none, .mov (.tmp 1)⟩,
       ⟨(some 46), none, .mov (.tmp 8)⟩,
       ⟨(some 47), none, .bin .shr (.tmp 45) (.tmp 46)⟩,
       ⟨(some 48), none, .bin .and (.tmp 47) (.lit (.int .i64 1))⟩,
       ⟨(some 49), none, .bin .eql (.tmp 48) (.lit (.int .i64 0))⟩])
    (.cond (.tmp 49) (.draw (.step ⟨(some 50), none, .faddr 2 (.tmp 6)⟩ (
       .step ⟨(some 51), none, .load false 1 (.tmp 50)⟩ (
       .step ⟨(some 52), none, .mov (.tmp 8)⟩ (
       .ev ⟨(some 53), none, .call (.fn 42) [(.lit (.int .i64 0)), (.lit (.int .i64 24))]⟩ [⟨(some 51), none, .load false 1 (.tmp 50)⟩, ⟨(some 50), none, .faddr 2 (.tmp 6)⟩] (
       .step ⟨(some 54), none, .iaddr 2 (.tmp 51) (.tmp 52)⟩ (
        .ev ⟨none, none, .store 2 (.tmp 54) (.tmp 53)⟩ [] (
        .done)
        (.stop)))
       (.stop))))))
      (.skip)))))
   (.reg [⟨(some 55), none, .bin .add (.tmp 42) (.lit (.int .i64 1))⟩,
     ⟨(some 42), none, .mov (.tmp 55)⟩])))))))
 (.seq (.reg [⟨(some 57), none, .load true 3 (.tmp 6)⟩,
    ⟨(some 58), none, .call (.fn 23) [(.tmp 57)]⟩,
    ⟨(some 56), none, .mov (.tmp 58)⟩,
    ⟨(some 59), none, .ext (.tmp 56) 0⟩,
    ⟨(some 60), none, .ext (.tmp 56) 1⟩,
    ⟨(some 9), none, .mov (.tmp 59)⟩,
    ⟨(some 10), none, .mov (.tmp 60)⟩])
 (.seq (.reg [⟨(some 61), none, .mov (.tmp 10)⟩,
    ⟨(some 62), none, .bin .eql (.tmp 61) (.lit (.int .i64 0))⟩,
    ⟨(some 63), none, .mov (.tmp 62)⟩,
    ⟨(some 64), (some (63, true)), .mov (.tmp 9)⟩,
    ⟨(some 65), (some (63, true)), .bin .eql (.tmp 64) (.lit (.int .i64 0))⟩,
    ⟨(some 66), none, .pick (.tmp 63) (.tmp 65) (.lit (.bool false))⟩,
    ⟨(some 5), none, .mov (.tmp 66)⟩])
 (.ret)))))))
theorem k41 : FnC Try.prog 41 67 [] [] [.tmp 5] c41 3 := ⟨Try.f41, _, Try.func41, rfl, by decide, rfl, by decide, by kernel_rfl, by kernel_rfl⟩
def c43 : AC :=
 .seq (.reg [⟨(some 2), none, .box (.tmp 0)⟩,
    ⟨(some 3), none, .box (.tmp 1)⟩,
    ⟨(some 4), none, .mov (.lit (.bool false))⟩])
 (.seq (.reg [⟨(some 5), none, .faddr 0 (.tmp 2)⟩,
    ⟨(some 6), none, .load false 1 (.tmp 5)⟩,
    ⟨(some 7), none, .faddr 0 (.tmp 3)⟩,
    ⟨(some 8), none, .load false 1 (.tmp 7)⟩,
    ⟨(some 9), none, .bin .geq (.tmp 6) (.tmp 8)⟩,
    ⟨(some 10), none, .mov (.tmp 9)⟩,
    ⟨(some 11), (some (10, true)), .faddr 1 (.tmp 2)⟩,
    ⟨(some 12), (some (10, true)), .load false 1 (.tmp 11)⟩,
    ⟨(some 13), (some (10, true)), .faddr 1 (.tmp 3)⟩,
    ⟨(some 14), (some (10, true)), .load false 1 (.tmp 13)⟩,
    ⟨(some 15), (some (10, true)), .bin .leq (.tmp 12) (.tmp 14)⟩,
    ⟨(some 16), none, .pick (.tmp 10) (.tmp 15) (.lit (.bool false))⟩,
    ⟨(some 4), none, .mov (.tmp 16)⟩])
 (.ret))
theorem k43 : FnC Try.prog 43 17 [] [] [.tmp 4] c43 2 := ⟨Try.f43, _, Try.func43, rfl, by decide, rfl, by decide, by kernel_rfl, by kernel_rfl⟩
end Go.Proofs.Yticdacdflemoiaa
