/- Proved here: laws that the statements need (FlC2). No conditions but those that each law states. -/
import Derived.Test.YtkbjodmpmmnhgaaDoorFL
import Derived.Test.YtkbjodmpmmnhgaaDoorProg

set_option linter.unusedSimpArgs false
set_option linter.unusedVariables false

/- Compiled code of functions, printed by program; each is checked to be the program's. No conditions. -/
namespace Go.Proofs.YtkbjodmpmmnhgaaDoor
open Go Go.Ab
/-- dipworks/flag.Wrong -/
def c29 : AC :=
 .seq (.reg [⟨(some 1), none, .box (.tmp 0)⟩,
    ⟨(some 2), none, .mov (.lit (.int .i64 0))⟩,
    ⟨(some 3), none, .alloc [(.int .i64 0)]⟩])
 (.seq (.reg [⟨none, none, .defer 44 [(.tmp 3)]⟩])
 (.seq (.reg [⟨(some 8), none, .load true 5 (.tmp 1)⟩,
    ⟨(some 9), none, .call (.fn 45) [(.tmp 8), (.lit (.bool true))]⟩,
    ⟨(some 10), none, .call (.fn 51) [(.tmp 9)]⟩,
    ⟨(some 11), none, .bin .eql (.tmp 10) (.lit (.int .i64 0))⟩,
    ⟨(some 12), none, .call (.fn 50) [(.tmp 11), (.lit (.int .i64 4))]⟩])
 (.seq (.seq (.reg [⟨(some 13), none, .faddr 4 (.tmp 1)⟩,
     ⟨(some 14), none, .load false 1 (.tmp 13)⟩,
     ⟨(some 15), none, .len (.tmp 14)⟩,
     ⟨(some 16), none, .bin .add (.tmp 15) (.lit (.int .i64 1))⟩,
     ⟨(some 17), none, .mov (.lit (.int .i64 0))⟩])
  (.block 0 (.loop (.seq (.reg [⟨(some 18), none, .bin .lss (.tmp 17) (.tmp 16)⟩])
   (.seq (.cond (.tmp 18) (.skip)
      (.exit 0))
   (.seq (.block 1 (.seq (.reg [⟨(some 19), none, .mov (.tmp 17)⟩,
       ⟨(some 4), none, .mov (.tmp 19)⟩])
    (.seq (.reg [⟨(some 20), none, .faddr 4 (.tmp 1)⟩,
       ⟨(some 21), none, .load false 1 (.tmp 20)⟩,
       ⟨(some 22), none, .len (.tmp 21)⟩,
       ⟨(some 23), none, .bin .shl (.lit (.int .i64 1)) (.tmp 22)⟩,
       ⟨(some 24), none, .mov (.lit (.int .i64 0))⟩])
    (.block 2 (.loop (.seq (.reg [⟨(some 25), none, .bin .lss (.tmp 24) (.tmp 23)⟩])
     (.seq (.cond (.tmp 25) (.skip)
        (.exit 2))
     (.seq (.block 3 (.seq (.reg [⟨(some 26), none, .mov (.tmp 24)⟩,
         ⟨(some 5), none, .mov (.tmp 26)⟩])
      (.seq (.seq (.reg [⟨(some 27), none, .mov (.tmp 5)⟩,
          ⟨(some 28), none, .conv .u64 (.tmp 27)⟩,
          ⟨(some 29), none, .call (.fn 64) [(.tmp 28)]⟩,
          ⟨(some 30), none, .mov (.tmp 4)⟩,
          ⟨(some 31), none, .bin .neq (.tmp 29) (.tmp 30)⟩])
       (.cond (.tmp 31) (.exit 3)
         (.skip)))
      (.seq (.reg [⟨(some 32), none, .load true 5 (.tmp 1)⟩,
         ⟨(some 6), none, .alloc [(.int .i64 0), (.int .i64 0), (.int .i64 0), (.slice none 0 0), (.slice none 0 0)]⟩,
         ⟨none, none, .store 5 (.tmp 6) (.tmp 32)⟩])
      (.seq (.reg [⟨(some 33), none, .faddr 4 (.tmp 1)⟩,
         ⟨(some 34), none, .load false 1 (.tmp 33)⟩,
         ⟨(some 35), none, .len (.tmp 34)⟩,
         ⟨(some 36), none, .mks 2 16 (.agg #[(.int .i64 0), (.bool false)]) (.tmp 35) (.tmp 35)⟩,
         ⟨(some 37), none, .faddr 4 (.tmp 6)⟩,
         ⟨none, none, .store 1 (.tmp 37) (.tmp 36)⟩])
      (.seq (.reg [⟨(some 38), none, .faddr 4 (.tmp 6)⟩,
         ⟨(some 39), none, .load false 1 (.tmp 38)⟩,
         ⟨(some 40), none, .faddr 4 (.tmp 1)⟩,
         ⟨(some 41), none, .load false 1 (.tmp 40)⟩,
         ⟨(some 42), none, .cpy 2 (.tmp 39) (.tmp 41)⟩])
      (.seq (.seq (.reg [⟨(some 43), none, .faddr 4 (.tmp 1)⟩,
          ⟨(some 44), none, .load false 1 (.tmp 43)⟩,
          ⟨(some 45), none, .len (.tmp 44)⟩,
          ⟨(some 46), none, .bin .sub (.tmp 45) (.lit (.int .i64 1))⟩,
          ⟨(some 7), none, .mov (.tmp 46)⟩])
       (.block 4 (.loop (.seq (.seq (.reg [⟨(some 47), none, .mov (.tmp 7)⟩,
            ⟨(some 48), none, .bin .geq (.tmp 47) (.lit (.int .i64 0))⟩])
         (.cond (.tmp 48) (.skip)
           (.exit 4)))
        (.seq (.block 5 (.seq (.reg [⟨(some 51), none, .mov (.tmp 5)⟩,
            ⟨(some 52), none, .mov (.tmp 7)⟩,
            ⟨(some 53), none, .bin .shr (.tmp 51) (.tmp 52)⟩,
            ⟨(some 54), none, .bin .and (.tmp 53) (.lit (.int .i64 1))⟩,
            ⟨(some 55), none, .bin .eql (.tmp 54) (.lit (.int .i64 1))⟩])
         (.cond (.tmp 55) (.draw (.step ⟨(some 56), none, .faddr 4 (.tmp 6)⟩ (
            .step ⟨(some 57), none, .load false 1 (.tmp 56)⟩ (
            .step ⟨(some 58), none, .mov (.tmp 7)⟩ (
            .step ⟨(some 59), none, .slc none 2 (.tmp 57) none (some (.tmp 58))⟩ (
            .step ⟨(some 60), none, .faddr 4 (.tmp 6)⟩ (
            .step ⟨(some 61), none, .load false 1 (.tmp 60)⟩ (
            .step ⟨(some 62), none, .mov (.tmp 7)⟩ (
            .step ⟨(some 63), none, .bin .add (.tmp 62) (.lit (.int .i64 1))⟩ (
            .step ⟨(some 64), none, .slc none 2 (.tmp 61) (some (.tmp 63)) none⟩ (
            .ev ⟨(some 65), none, .app 2 16 (.tmp 59) (.tmp 64)⟩ [⟨(some 61), none, .load false 1 (.tmp 60)⟩, ⟨(some 60), none, .faddr 4 (.tmp 6)⟩, ⟨(some 57), none, .load false 1 (.tmp 56)⟩, ⟨(some 56), none, .faddr 4 (.tmp 6)⟩] (
            .step ⟨(some 66), none, .faddr 4 (.tmp 6)⟩ (
             .ev ⟨none, none, .store 1 (.tmp 66) (.tmp 65)⟩ [] (
             .done)
             (.stop)))
            (.stop))))))))))))
           (.skip))))
        (.reg [⟨(some 49), none, .mov (.tmp 7)⟩,
          ⟨(some 50), none, .bin .sub (.tmp 49) (.lit (.int .i64 1))⟩,
          ⟨(some 7), none, .mov (.tmp 50)⟩]))))))
      (.seq (.seq (.gcp)
       (.reg [⟨(some 67), none, .load true 5 (.tmp 6)⟩,
         ⟨(some 68), none, .call (.fn 45) [(.tmp 67), (.lit (.bool true))]⟩,
         ⟨(some 69), none, .call (.fn 51) [(.tmp 68)]⟩,
         ⟨(some 70), none, .bin .gtr (.tmp 69) (.lit (.int .i64 0))⟩]))
      (.cond (.tmp 70) (.seq (.reg [⟨(some 71), none, .mov (.tmp 5)⟩,
          ⟨(some 2), none, .mov (.tmp 71)⟩,
          ⟨none, none, .store 1 (.tmp 3) (.lit (.int .i64 0))⟩])
       (.ret))
        (.skip))))))))))
     (.reg [⟨(some 72), none, .bin .add (.tmp 24) (.lit (.int .i64 1))⟩,
       ⟨(some 24), none, .mov (.tmp 72)⟩])))))))))
   (.reg [⟨(some 73), none, .bin .add (.tmp 17) (.lit (.int .i64 1))⟩,
     ⟨(some 17), none, .mov (.tmp 73)⟩])))))))
 (.seq (.reg [⟨(some 2), none, .mov (.lit (.int .i64 0))⟩,
    ⟨none, none, .store 1 (.tmp 3) (.lit (.int .i64 0))⟩])
 (.ret)))))
theorem k29 : FnC Tryd.prog 29 74 [2, 3] [18] [.tmp 2, .cell 3 false 1] c29 1 := ⟨Tryd.f29, _, Tryd.func29, rfl, by decide, rfl, by decide, by kernel_rfl, by kernel_rfl⟩
/-- dipworks/dipworksref10.Kinds -/
def c16 : AC :=
 .seq (.reg [⟨(some 2), none, .box (.tmp 0)⟩,
    ⟨(some 4), none, .mov (.lit (.int .i64 0))⟩,
    ⟨(some 5), none, .mov (.lit (.int .i64 0))⟩])
 (.seq (.seq (.reg [⟨(some 8), none, .load true 5 (.tmp 2)⟩,
     ⟨(some 9), none, .call (.fn 36) [(.tmp 8)]⟩,
     ⟨(some 10), none, .un .not (.tmp 9)⟩])
  (.cond (.tmp 10) (.seq (.reg [⟨(some 4), none, .mov (.lit (.int .i64 0))⟩,
      ⟨(some 5), none, .mov (.lit (.int .i64 1))⟩])
   (.ret))
    (.skip)))
 (.seq (.seq (.reg [⟨(some 11), none, .load true 5 (.tmp 2)⟩,
     ⟨(some 12), none, .mov (.tmp 1)⟩,
     ⟨(some 13), none, .call (.fn 47) [(.tmp 11), (.tmp 12)]⟩,
     ⟨(some 14), none, .un .not (.tmp 13)⟩])
  (.cond (.tmp 14) (.seq (.reg [⟨(some 4), none, .mov (.lit (.int .i64 0))⟩,
      ⟨(some 5), none, .mov (.lit (.int .i64 2))⟩])
   (.ret))
    (.skip)))
 (.seq (.reg [⟨(some 6), none, .mov (.lit (.int .i64 0))⟩])
 (.seq (.seq (.reg [⟨(some 7), none, .mov (.lit (.int .i64 0))⟩])
  (.block 0 (.loop (.seq (.seq (.reg [⟨(some 15), none, .mov (.tmp 7)⟩,
       ⟨(some 16), none, .bin .leq (.tmp 15) (.lit (.int .i64 2))⟩])
    (.cond (.tmp 16) (.skip)
      (.exit 0)))
   (.seq (.block 1 (.seq (.reg [⟨(some 19), none, .load true 5 (.tmp 2)⟩,
       ⟨(some 20), none, .mov (.tmp 1)⟩,
       ⟨(some 21), none, .mov (.tmp 7)⟩,
       ⟨(some 22), none, .call (.fn 48) [(.tmp 19), (.tmp 20), (.tmp 21)]⟩])
    (.cond (.tmp 22) (.reg [⟨(some 23), none, .mov (.tmp 6)⟩,
       ⟨(some 24), none, .mov (.tmp 7)⟩,
       ⟨(some 25), none, .call (.fn 49) [(.tmp 24)]⟩,
       ⟨(some 26), none, .bin .add (.tmp 23) (.tmp 25)⟩,
       ⟨(some 6), none, .mov (.tmp 26)⟩])
      (.skip))))
   (.reg [⟨(some 17), none, .mov (.tmp 7)⟩,
     ⟨(some 18), none, .bin .add (.tmp 17) (.lit (.int .i64 1))⟩,
     ⟨(some 7), none, .mov (.tmp 18)⟩]))))))
 (.seq (.reg [⟨(some 27), none, .mov (.tmp 6)⟩,
    ⟨(some 4), none, .mov (.tmp 27)⟩,
    ⟨(some 5), none, .mov (.lit (.int .i64 0))⟩])
 (.ret))))))
theorem k16 : FnC Tryd.prog 16 28 [] [] [.tmp 4, .tmp 5] c16 2 := ⟨Tryd.f16, _, Tryd.func16, rfl, by decide, rfl, by decide, by kernel_rfl, by kernel_rfl⟩
/-- dipworks/dipworksref10.Up -/
def c18 : AC :=
 .seq (.reg [⟨(some 1), none, .box (.tmp 0)⟩,
    ⟨(some 2), none, .mov (.lit (.int .i64 0))⟩,
    ⟨(some 3), none, .mov (.lit (.int .i64 0))⟩,
    ⟨(some 4), none, .mov (.lit (.int .i64 0))⟩])
 (.seq (.reg [⟨(some 12), none, .load true 5 (.tmp 1)⟩,
    ⟨(some 13), none, .call (.fn 53) [(.tmp 12), (.lit (.bool true))]⟩,
    ⟨(some 11), none, .mov (.tmp 13)⟩,
    ⟨(some 14), none, .ext (.tmp 11) 0⟩,
    ⟨(some 15), none, .ext (.tmp 11) 1⟩,
    ⟨(some 5), none, .mov (.tmp 14)⟩,
    ⟨(some 6), none, .mov (.tmp 15)⟩])
 (.seq (.seq (.reg [⟨(some 16), none, .mov (.tmp 6)⟩,
     ⟨(some 17), none, .bin .neq (.tmp 16) (.lit (.int .i64 0))⟩])
  (.cond (.tmp 17) (.seq (.reg [⟨(some 18), none, .mov (.tmp 6)⟩,
      ⟨(some 2), none, .mov (.lit (.int .i64 0))⟩,
      ⟨(some 3), none, .mov (.lit (.int .i64 0))⟩,
      ⟨(some 4), none, .mov (.tmp 18)⟩])
   (.ret))
    (.skip)))
 (.seq (.reg [⟨(some 7), none, .mov (.lit (.int .i64 0))⟩,
    ⟨(some 8), none, .mov (.lit (.int .i64 0))⟩])
 (.seq (.seq (.reg [⟨(some 9), none, .mov (.lit (.int .i64 0))⟩])
  (.block 0 (.loop (.seq (.seq (.reg [⟨(some 19), none, .mov (.tmp 9)⟩,
       ⟨(some 20), none, .faddr 3 (.tmp 1)⟩,
       ⟨(some 21), none, .load false 1 (.tmp 20)⟩,
       ⟨(some 22), none, .len (.tmp 21)⟩,
       ⟨(some 23), none, .bin .lss (.tmp 19) (.tmp 22)⟩])
    (.cond (.tmp 23) (.skip)
      (.exit 0)))
   (.seq (.block 1 (.seq (.reg [⟨(some 26), none, .load true 5 (.tmp 1)⟩,
       ⟨(some 27), none, .mov (.tmp 5)⟩,
       ⟨(some 28), none, .mov (.tmp 9)⟩,
       ⟨(some 29), none, .call (.fn 54) [(.tmp 26), (.tmp 27), (.tmp 28)]⟩,
       ⟨(some 10), none, .mov (.tmp 29)⟩])
    (.seq (.seq (.reg [⟨(some 30), none, .mov (.tmp 10)⟩,
        ⟨(some 31), none, .mov (.tmp 5)⟩,
        ⟨(some 32), none, .len (.tmp 31)⟩,
        ⟨(some 33), none, .bin .eql (.tmp 30) (.tmp 32)⟩])
     (.cond (.tmp 33) (.reg [⟨(some 34), none, .mov (.tmp 7)⟩,
        ⟨(some 35), none, .mov (.tmp 9)⟩,
        ⟨(some 36), none, .call (.fn 49) [(.tmp 35)]⟩,
        ⟨(some 37), none, .bin .add (.tmp 34) (.tmp 36)⟩,
        ⟨(some 7), none, .mov (.tmp 37)⟩])
       (.skip)))
    (.seq (.reg [⟨(some 38), none, .mov (.tmp 10)⟩,
       ⟨(some 39), none, .bin .gtr (.tmp 38) (.lit (.int .i64 0))⟩])
    (.cond (.tmp 39) (.reg [⟨(some 40), none, .mov (.tmp 8)⟩,
       ⟨(some 41), none, .mov (.tmp 9)⟩,
       ⟨(some 42), none, .call (.fn 49) [(.tmp 41)]⟩,
       ⟨(some 43), none, .bin .add (.tmp 40) (.tmp 42)⟩,
       ⟨(some 8), none, .mov (.tmp 43)⟩])
      (.skip))))))
   (.reg [⟨(some 24), none, .mov (.tmp 9)⟩,
     ⟨(some 25), none, .bin .add (.tmp 24) (.lit (.int .i64 1))⟩,
     ⟨(some 9), none, .mov (.tmp 25)⟩]))))))
 (.seq (.reg [⟨(some 44), none, .mov (.tmp 7)⟩,
    ⟨(some 45), none, .mov (.tmp 8)⟩,
    ⟨(some 2), none, .mov (.tmp 44)⟩,
    ⟨(some 3), none, .mov (.tmp 45)⟩,
    ⟨(some 4), none, .mov (.lit (.int .i64 0))⟩])
 (.ret))))))
theorem k18 : FnC Tryd.prog 18 46 [] [] [.tmp 2, .tmp 3, .tmp 4] c18 1 := ⟨Tryd.f18, _, Tryd.func18, rfl, by decide, rfl, by decide, by kernel_rfl, by kernel_rfl⟩
/-- dipworks/dipworksref10.Count -/
def c20 : AC :=
 .seq (.reg [⟨(some 1), none, .box (.tmp 0)⟩,
    ⟨(some 2), none, .mov (.lit (.int .i64 0))⟩,
    ⟨(some 3), none, .mov (.lit (.int .i64 0))⟩])
 (.seq (.seq (.reg [⟨(some 4), none, .load true 5 (.tmp 1)⟩,
     ⟨(some 5), none, .call (.fn 36) [(.tmp 4)]⟩,
     ⟨(some 6), none, .un .not (.tmp 5)⟩])
  (.cond (.tmp 6) (.seq (.reg [⟨(some 2), none, .mov (.lit (.int .i64 0))⟩,
      ⟨(some 3), none, .mov (.lit (.int .i64 1))⟩])
   (.ret))
    (.skip)))
 (.seq (.reg [⟨(some 7), none, .load true 5 (.tmp 1)⟩,
    ⟨(some 8), none, .call (.fn 55) [(.tmp 7)]⟩,
    ⟨(some 9), none, .len (.tmp 8)⟩,
    ⟨(some 2), none, .mov (.tmp 9)⟩,
    ⟨(some 3), none, .mov (.lit (.int .i64 0))⟩])
 (.ret)))
theorem k20 : FnC Tryd.prog 20 10 [] [] [.tmp 2, .tmp 3] c20 1 := ⟨Tryd.f20, _, Tryd.func20, rfl, by decide, rfl, by decide, by kernel_rfl, by kernel_rfl⟩
/-- dipworks/dipworksref10.Long -/
def c22 : AC :=
 .seq (.reg [⟨(some 1), none, .box (.tmp 0)⟩,
    ⟨(some 2), none, .alloc [(.int .i64 0), (.int .i64 0)]⟩,
    ⟨(some 3), none, .mov (.lit (.int .i64 0))⟩])
 (.seq (.reg [⟨(some 10), none, .load true 5 (.tmp 1)⟩,
    ⟨(some 11), none, .call (.fn 53) [(.tmp 10), (.lit (.bool true))]⟩,
    ⟨(some 9), none, .mov (.tmp 11)⟩,
    ⟨(some 12), none, .ext (.tmp 9) 0⟩,
    ⟨(some 13), none, .ext (.tmp 9) 1⟩,
    ⟨(some 4), none, .mov (.tmp 12)⟩,
    ⟨(some 5), none, .mov (.tmp 13)⟩])
 (.seq (.seq (.reg [⟨(some 14), none, .mov (.tmp 5)⟩,
     ⟨(some 15), none, .bin .neq (.tmp 14) (.lit (.int .i64 0))⟩])
  (.cond (.tmp 15) (.seq (.reg [⟨(some 16), none, .build [(.int .i64 0), (.int .i64 0)] []⟩,
      ⟨(some 17), none, .mov (.tmp 5)⟩,
      ⟨none, none, .store 2 (.tmp 2) (.tmp 16)⟩,
      ⟨(some 3), none, .mov (.tmp 17)⟩])
   (.ret))
    (.skip)))
 (.seq (.reg [⟨(some 18), none, .faddr 3 (.tmp 1)⟩,
    ⟨(some 19), none, .load false 1 (.tmp 18)⟩,
    ⟨(some 20), none, .len (.tmp 19)⟩,
    ⟨(some 21), none, .build [(.int .i64 0), (.int .i64 0)] [(0, 1, (.tmp 20)), (1, 1, (.lit (.int .i64 0)))]⟩,
    ⟨(some 6), none, .alloc [(.int .i64 0), (.int .i64 0)]⟩,
    ⟨none, none, .store 2 (.tmp 6) (.tmp 21)⟩])
 (.seq (.seq (.reg [⟨(some 7), none, .mov (.lit (.int .i64 0))⟩])
  (.block 0 (.loop (.seq (.seq (.reg [⟨(some 22), none, .mov (.tmp 7)⟩,
       ⟨(some 23), none, .mov (.tmp 4)⟩,
       ⟨(some 24), none, .len (.tmp 23)⟩,
       ⟨(some 25), none, .bin .lss (.tmp 22) (.tmp 24)⟩])
    (.cond (.tmp 25) (.skip)
      (.exit 0)))
   (.seq (.block 1 (.seq (.draw (.step ⟨(some 28), none, .load true 5 (.tmp 1)⟩ (
       .step ⟨(some 29), none, .mov (.tmp 4)⟩ (
       .step ⟨(some 30), none, .mov (.tmp 7)⟩ (
       .step ⟨(some 31), none, .iaddr 1 (.tmp 29) (.tmp 30)⟩ (
       .step ⟨(some 32), none, .load false 1 (.tmp 31)⟩ (
       .step ⟨(some 34), none, .faddr 3 (.tmp 1)⟩ (
       .step ⟨(some 35), none, .load false 1 (.tmp 34)⟩ (
       .step ⟨(some 36), none, .len (.tmp 35)⟩ (
       .ev ⟨(some 33), none, .call (.fn 58) [(.tmp 28), (.tmp 32)]⟩ [⟨(some 36), none, .len (.tmp 35)⟩, ⟨(some 35), none, .load false 1 (.tmp 34)⟩, ⟨(some 34), none, .faddr 3 (.tmp 1)⟩, ⟨(some 31), none, .iaddr 1 (.tmp 29) (.tmp 30)⟩] (
       .ev ⟨(some 37), none, .call (.fn 57) [(.tmp 33), (.lit (.int .i64 0)), (.tmp 36)]⟩ [⟨(some 35), none, .load false 1 (.tmp 34)⟩, ⟨(some 34), none, .faddr 3 (.tmp 1)⟩, ⟨(some 32), none, .load false 1 (.tmp 31)⟩, ⟨(some 31), none, .iaddr 1 (.tmp 29) (.tmp 30)⟩, ⟨(some 28), none, .load true 5 (.tmp 1)⟩] (
        .step ⟨(some 8), none, .mov (.tmp 37)⟩ (
         .done))
        (.stop))
       (.stop)))))))))))
    (.reg [⟨(some 38), none, .faddr 0 (.tmp 6)⟩,
      ⟨(some 39), none, .load false 1 (.tmp 38)⟩,
      ⟨(some 40), none, .mov (.tmp 8)⟩,
      ⟨(some 41), none, .mxmn false (.tmp 39) [(.tmp 40)]⟩,
      ⟨(some 42), none, .faddr 1 (.tmp 6)⟩,
      ⟨(some 43), none, .load false 1 (.tmp 42)⟩,
      ⟨(some 44), none, .mov (.tmp 8)⟩,
      ⟨(some 45), none, .mxmn true (.tmp 43) [(.tmp 44)]⟩,
      ⟨(some 46), none, .build [(.int .i64 0), (.int .i64 0)] [(0, 1, (.tmp 41)), (1, 1, (.tmp 45))]⟩,
      ⟨none, none, .store 2 (.tmp 6) (.tmp 46)⟩])))
   (.reg [⟨(some 26), none, .mov (.tmp 7)⟩,
     ⟨(some 27), none, .bin .add (.tmp 26) (.lit (.int .i64 1))⟩,
     ⟨(some 7), none, .mov (.tmp 27)⟩]))))))
 (.seq (.reg [⟨(some 47), none, .load true 2 (.tmp 6)⟩,
    ⟨none, none, .store 2 (.tmp 2) (.tmp 47)⟩,
    ⟨(some 3), none, .mov (.lit (.int .i64 0))⟩])
 (.ret))))))
theorem k22 : FnC Tryd.prog 22 48 [2] [] [.cell 2 true 2, .tmp 3] c22 1 := ⟨Tryd.f22, _, Tryd.func22, rfl, by decide, rfl, by decide, by kernel_rfl, by kernel_rfl⟩
/-- dipworks/dipworksref10.Under -/
def c24 : AC :=
 .seq (.reg [⟨(some 3), none, .box (.tmp 0)⟩,
    ⟨(some 6), none, .mov (.lit (.int .i64 0))⟩,
    ⟨(some 7), none, .mov (.lit (.int .i64 0))⟩])
 (.seq (.draw (.step ⟨(some 13), none, .load true 5 (.tmp 3)⟩ (
    .step ⟨(some 14), none, .load true 5 (.tmp 3)⟩ (
    .step ⟨(some 15), none, .mov (.tmp 1)⟩ (
    .ev ⟨(some 16), none, .call (.fn 47) [(.tmp 14), (.tmp 15)]⟩ [⟨(some 13), none, .load true 5 (.tmp 3)⟩] (
    .step ⟨(some 17), none, .mov (.tmp 16)⟩ (
     .step ⟨(some 18), (some (17, true)), .mov (.tmp 2)⟩ (
     .step ⟨(some 19), (some (17, true)), .mov (.tmp 1)⟩ (
     .step ⟨(some 20), (some (17, true)), .bin .add (.tmp 19) (.lit (.int .i64 1))⟩ (
     .step ⟨(some 21), (some (17, true)), .faddr 3 (.tmp 3)⟩ (
     .step ⟨(some 22), (some (17, true)), .load false 1 (.tmp 21)⟩ (
     .step ⟨(some 23), (some (17, true)), .len (.tmp 22)⟩ (
     .ev ⟨(some 24), (some (17, true)), .call (.fn 59) [(.tmp 18), (.tmp 20), (.tmp 23)]⟩ [⟨(some 22), (some (17, true)), .load false 1 (.tmp 21)⟩, ⟨(some 21), (some (17, true)), .faddr 3 (.tmp 3)⟩, ⟨(some 14), none, .load true 5 (.tmp 3)⟩, ⟨(some 13), none, .load true 5 (.tmp 3)⟩] (
     .step ⟨(some 25), none, .pick (.tmp 17) (.tmp 24) (.lit (.bool false))⟩ (
      .ev ⟨(some 26), none, .call (.fn 53) [(.tmp 13), (.tmp 25)]⟩ [⟨(some 23), (some (17, true)), .len (.tmp 22)⟩, ⟨(some 22), (some (17, true)), .load false 1 (.tmp 21)⟩, ⟨(some 21), (some (17, true)), .faddr 3 (.tmp 3)⟩, ⟨(some 14), none, .load true 5 (.tmp 3)⟩] (
      .step ⟨(some 12), none, .mov (.tmp 26)⟩ (
       .step ⟨(some 27), none, .ext (.tmp 12) 0⟩ (
       .step ⟨(some 28), none, .ext (.tmp 12) 1⟩ (
       .step ⟨(some 8), none, .mov (.tmp 27)⟩ (
       .step ⟨(some 9), none, .mov (.tmp 28)⟩ (
       .done))))))
      (.stop)))
     (.stop)))))))))
    (.stop))))))
 (.seq (.seq (.reg [⟨(some 29), none, .mov (.tmp 9)⟩,
     ⟨(some 30), none, .bin .neq (.tmp 29) (.lit (.int .i64 0))⟩])
  (.cond (.tmp 30) (.seq (.reg [⟨(some 31), none, .mov (.tmp 9)⟩,
      ⟨(some 6), none, .mov (.lit (.int .i64 0))⟩,
      ⟨(some 7), none, .mov (.tmp 31)⟩])
   (.ret))
    (.skip)))
 (.seq (.reg [⟨(some 10), none, .mov (.lit (.int .i64 0))⟩])
 (.seq (.seq (.reg [⟨(some 11), none, .mov (.lit (.int .i64 0))⟩])
  (.block 0 (.loop (.seq (.seq (.reg [⟨(some 32), none, .mov (.tmp 11)⟩,
       ⟨(some 33), none, .mov (.tmp 8)⟩,
       ⟨(some 34), none, .len (.tmp 33)⟩,
       ⟨(some 35), none, .bin .lss (.tmp 32) (.tmp 34)⟩])
    (.cond (.tmp 35) (.skip)
      (.exit 0)))
   (.seq (.block 1 (.seq (.draw (.step ⟨(some 38), none, .load true 5 (.tmp 3)⟩ (
       .step ⟨(some 39), none, .mov (.tmp 8)⟩ (
       .step ⟨(some 40), none, .mov (.tmp 11)⟩ (
       .step ⟨(some 41), none, .iaddr 1 (.tmp 39) (.tmp 40)⟩ (
       .step ⟨(some 42), none, .load false 1 (.tmp 41)⟩ (
       .step ⟨(some 44), none, .mov (.tmp 1)⟩ (
       .step ⟨(some 45), none, .mov (.tmp 2)⟩ (
       .ev ⟨(some 43), none, .call (.fn 58) [(.tmp 38), (.tmp 42)]⟩ [⟨(some 41), none, .iaddr 1 (.tmp 39) (.tmp 40)⟩] (
       .ev ⟨(some 46), none, .call (.fn 57) [(.tmp 43), (.tmp 44), (.tmp 45)]⟩ [⟨(some 42), none, .load false 1 (.tmp 41)⟩, ⟨(some 41), none, .iaddr 1 (.tmp 39) (.tmp 40)⟩, ⟨(some 38), none, .load true 5 (.tmp 3)⟩] (
        .step ⟨(some 47), none, .bin .gtr (.tmp 46) (.lit (.int .i64 0))⟩ (
         .done))
        (.stop))
       (.stop))))))))))
    (.cond (.tmp 47) (.reg [⟨(some 48), none, .mov (.tmp 10)⟩,
       ⟨(some 49), none, .bin .add (.tmp 48) (.lit (.int .i64 1))⟩,
       ⟨(some 10), none, .mov (.tmp 49)⟩])
      (.skip))))
   (.reg [⟨(some 36), none, .mov (.tmp 11)⟩,
     ⟨(some 37), none, .bin .add (.tmp 36) (.lit (.int .i64 1))⟩,
     ⟨(some 11), none, .mov (.tmp 37)⟩]))))))
 (.seq (.seq (.reg [⟨(some 50), none, .mov (.tmp 10)⟩,
     ⟨(some 51), none, .mov (.tmp 8)⟩,
     ⟨(some 52), none, .len (.tmp 51)⟩,
     ⟨(some 53), none, .bin .eql (.tmp 50) (.tmp 52)⟩])
  (.cond (.tmp 53) (.seq (.reg [⟨(some 6), none, .mov (.lit (.int .i64 2))⟩,
      ⟨(some 7), none, .mov (.lit (.int .i64 0))⟩])
   (.ret))
    (.skip)))
 (.seq (.seq (.reg [⟨(some 54), none, .mov (.tmp 10)⟩,
     ⟨(some 55), none, .bin .eql (.tmp 54) (.lit (.int .i64 0))⟩])
  (.cond (.tmp 55) (.seq (.reg [⟨(some 6), none, .mov (.lit (.int .i64 0))⟩,
      ⟨(some 7), none, .mov (.lit (.int .i64 0))⟩])
   (.ret))
    (.skip)))
 (.seq (.reg [⟨(some 6), none, .mov (.lit (.int .i64 1))⟩,
    ⟨(some 7), none, .mov (.lit (.int .i64 0))⟩])
 (.ret))))))))
theorem k24 : FnC Tryd.prog 24 56 [] [] [.tmp 6, .tmp 7] c24 3 := ⟨Tryd.f24, _, Tryd.func24, rfl, by decide, rfl, by decide, by kernel_rfl, by kernel_rfl⟩
/-- dipworks/dipworksref10.Down -/
def c26 : AC :=
 .seq (.reg [⟨(some 2), none, .box (.tmp 0)⟩,
    ⟨(some 4), none, .mov (.lit (.int .i64 0))⟩,
    ⟨(some 5), none, .mov (.lit (.int .i64 0))⟩])
 (.seq (.draw (.step ⟨(some 10), none, .load true 5 (.tmp 2)⟩ (
    .step ⟨(some 11), none, .load true 5 (.tmp 2)⟩ (
    .step ⟨(some 12), none, .mov (.tmp 1)⟩ (
    .ev ⟨(some 13), none, .call (.fn 47) [(.tmp 11), (.tmp 12)]⟩ [⟨(some 10), none, .load true 5 (.tmp 2)⟩] (
    .ev ⟨(some 14), none, .call (.fn 53) [(.tmp 10), (.tmp 13)]⟩ [⟨(some 11), none, .load true 5 (.tmp 2)⟩] (
     .step ⟨(some 9), none, .mov (.tmp 14)⟩ (
      .step ⟨(some 15), none, .ext (.tmp 9) 0⟩ (
      .step ⟨(some 16), none, .ext (.tmp 9) 1⟩ (
      .step ⟨(some 6), none, .mov (.tmp 15)⟩ (
      .step ⟨(some 7), none, .mov (.tmp 16)⟩ (
      .done))))))
     (.stop))
    (.stop))))))
 (.seq (.seq (.reg [⟨(some 17), none, .mov (.tmp 7)⟩,
     ⟨(some 18), none, .bin .neq (.tmp 17) (.lit (.int .i64 0))⟩])
  (.cond (.tmp 18) (.seq (.reg [⟨(some 19), none, .mov (.tmp 7)⟩,
      ⟨(some 4), none, .mov (.lit (.int .i64 0))⟩,
      ⟨(some 5), none, .mov (.tmp 19)⟩])
   (.ret))
    (.skip)))
 (.seq (.seq (.reg [⟨(some 20), none, .mov (.tmp 1)⟩,
     ⟨(some 8), none, .mov (.tmp 20)⟩])
  (.block 0 (.loop (.seq (.seq (.reg [⟨(some 21), none, .mov (.tmp 8)⟩,
       ⟨(some 22), none, .faddr 3 (.tmp 2)⟩,
       ⟨(some 23), none, .load false 1 (.tmp 22)⟩,
       ⟨(some 24), none, .len (.tmp 23)⟩,
       ⟨(some 25), none, .bin .lss (.tmp 21) (.tmp 24)⟩])
    (.cond (.tmp 25) (.skip)
      (.exit 0)))
   (.seq (.block 1 (.seq (.reg [⟨(some 28), none, .load true 5 (.tmp 2)⟩,
       ⟨(some 29), none, .mov (.tmp 6)⟩,
       ⟨(some 30), none, .mov (.tmp 8)⟩,
       ⟨(some 31), none, .call (.fn 54) [(.tmp 28), (.tmp 29), (.tmp 30)]⟩,
       ⟨(some 32), none, .bin .eql (.tmp 31) (.lit (.int .i64 0))⟩])
    (.cond (.tmp 32) (.seq (.reg [⟨(some 33), none, .mov (.tmp 8)⟩,
        ⟨(some 4), none, .mov (.tmp 33)⟩,
        ⟨(some 5), none, .mov (.lit (.int .i64 0))⟩])
     (.ret))
      (.skip))))
   (.reg [⟨(some 26), none, .mov (.tmp 8)⟩,
     ⟨(some 27), none, .bin .add (.tmp 26) (.lit (.int .i64 1))⟩,
     ⟨(some 8), none, .mov (.tmp 27)⟩]))))))
 (.seq (.reg [⟨(some 4), none, .mov (.lit (.int .i64 0))⟩,
    ⟨(some 5), none, .mov (.lit (.int .i64 4))⟩])
 (.ret)))))
theorem k26 : FnC Tryd.prog 26 34 [] [] [.tmp 4, .tmp 5] c26 2 := ⟨Tryd.f26, _, Tryd.func26, rfl, by decide, rfl, by decide, by kernel_rfl, by kernel_rfl⟩
/-- dipworks/dipworksref10.Ask -/
def c28 : AC :=
 .seq (.reg [⟨(some 1), none, .box (.tmp 0)⟩,
    ⟨(some 2), none, .mov (.lit (.int .i64 0))⟩,
    ⟨(some 3), none, .mov (.lit (.int .i64 0))⟩,
    ⟨(some 4), none, .mov (.lit (.int .i64 0))⟩])
 (.seq (.reg [⟨(some 10), none, .load true 5 (.tmp 1)⟩,
    ⟨(some 11), none, .call (.fn 53) [(.tmp 10), (.lit (.bool true))]⟩,
    ⟨(some 9), none, .mov (.tmp 11)⟩,
    ⟨(some 12), none, .ext (.tmp 9) 0⟩,
    ⟨(some 13), none, .ext (.tmp 9) 1⟩,
    ⟨(some 5), none, .mov (.tmp 12)⟩,
    ⟨(some 6), none, .mov (.tmp 13)⟩])
 (.seq (.seq (.reg [⟨(some 14), none, .mov (.tmp 6)⟩,
     ⟨(some 15), none, .bin .neq (.tmp 14) (.lit (.int .i64 0))⟩])
  (.cond (.tmp 15) (.seq (.reg [⟨(some 16), none, .mov (.tmp 6)⟩,
      ⟨(some 2), none, .mov (.lit (.int .i64 0))⟩,
      ⟨(some 3), none, .mov (.lit (.int .i64 0))⟩,
      ⟨(some 4), none, .mov (.tmp 16)⟩])
   (.ret))
    (.skip)))
 (.seq (.seq (.reg [⟨(some 17), none, .mov (.tmp 5)⟩,
     ⟨(some 18), none, .len (.tmp 17)⟩,
     ⟨(some 19), none, .bin .eql (.tmp 18) (.lit (.int .i64 1))⟩])
  (.cond (.tmp 19) (.seq (.reg [⟨(some 2), none, .mov (.lit (.int .i64 0))⟩,
      ⟨(some 3), none, .mov (.lit (.int .i64 0))⟩,
      ⟨(some 4), none, .mov (.lit (.int .i64 11))⟩])
   (.ret))
    (.skip)))
 (.seq (.reg [⟨(some 7), none, .mov (.lit (.int .i64 0))⟩])
 (.seq (.seq (.reg [⟨(some 8), none, .mov (.lit (.int .i64 0))⟩])
  (.block 0 (.loop (.seq (.seq (.reg [⟨(some 20), none, .mov (.tmp 8)⟩,
       ⟨(some 21), none, .faddr 3 (.tmp 1)⟩,
       ⟨(some 22), none, .load false 1 (.tmp 21)⟩,
       ⟨(some 23), none, .len (.tmp 22)⟩,
       ⟨(some 24), none, .bin .lss (.tmp 20) (.tmp 23)⟩])
    (.cond (.tmp 24) (.skip)
      (.exit 0)))
   (.seq (.block 1 (.seq (.reg [⟨(some 27), none, .mov (.tmp 5)⟩,
       ⟨(some 28), none, .mov (.tmp 8)⟩,
       ⟨(some 29), none, .call (.fn 63) [(.tmp 27), (.tmp 28)]⟩,
       ⟨(some 30), none, .mov (.tmp 5)⟩,
       ⟨(some 31), none, .mov (.tmp 7)⟩,
       ⟨(some 32), none, .call (.fn 63) [(.tmp 30), (.tmp 31)]⟩,
       ⟨(some 33), none, .bin .lss (.tmp 29) (.tmp 32)⟩])
    (.cond (.tmp 33) (.reg [⟨(some 34), none, .mov (.tmp 8)⟩,
       ⟨(some 7), none, .mov (.tmp 34)⟩])
      (.skip))))
   (.reg [⟨(some 25), none, .mov (.tmp 8)⟩,
     ⟨(some 26), none, .bin .add (.tmp 25) (.lit (.int .i64 1))⟩,
     ⟨(some 8), none, .mov (.tmp 26)⟩]))))))
 (.seq (.reg [⟨(some 35), none, .mov (.tmp 7)⟩,
    ⟨(some 36), none, .mov (.tmp 5)⟩,
    ⟨(some 37), none, .mov (.tmp 7)⟩,
    ⟨(some 38), none, .call (.fn 63) [(.tmp 36), (.tmp 37)]⟩,
    ⟨(some 2), none, .mov (.tmp 35)⟩,
    ⟨(some 3), none, .mov (.tmp 38)⟩,
    ⟨(some 4), none, .mov (.lit (.int .i64 0))⟩])
 (.ret)))))))
theorem k28 : FnC Tryd.prog 28 39 [] [] [.tmp 2, .tmp 3, .tmp 4] c28 1 := ⟨Tryd.f28, _, Tryd.func28, rfl, by decide, rfl, by decide, by kernel_rfl, by kernel_rfl⟩
/-- dipworks/dipworksref10.Wrong -/
def c30 : AC :=
 .seq (.reg [⟨(some 1), none, .box (.tmp 0)⟩,
    ⟨(some 2), none, .mov (.lit (.int .i64 0))⟩,
    ⟨(some 3), none, .mov (.lit (.int .i64 0))⟩])
 (.seq (.seq (.reg [⟨(some 6), none, .load true 5 (.tmp 1)⟩,
     ⟨(some 7), none, .call (.fn 36) [(.tmp 6)]⟩,
     ⟨(some 8), none, .un .not (.tmp 7)⟩])
  (.cond (.tmp 8) (.seq (.reg [⟨(some 2), none, .mov (.lit (.int .i64 0))⟩,
      ⟨(some 3), none, .mov (.lit (.int .i64 1))⟩])
   (.ret))
    (.skip)))
 (.seq (.seq (.reg [⟨(some 9), none, .load true 5 (.tmp 1)⟩,
     ⟨(some 10), none, .call (.fn 55) [(.tmp 9)]⟩,
     ⟨(some 11), none, .len (.tmp 10)⟩,
     ⟨(some 12), none, .bin .gtr (.tmp 11) (.lit (.int .i64 0))⟩])
  (.cond (.tmp 12) (.seq (.reg [⟨(some 2), none, .mov (.lit (.int .i64 0))⟩,
      ⟨(some 3), none, .mov (.lit (.int .i64 4))⟩])
   (.ret))
    (.skip)))
 (.seq (.reg [⟨(some 13), none, .load true 5 (.tmp 1)⟩,
    ⟨(some 14), none, .call (.fn 65) [(.tmp 13)]⟩,
    ⟨(some 4), none, .mov (.tmp 14)⟩])
 (.seq (.seq (.reg [⟨(some 5), none, .mov (.lit (.int .i64 0))⟩])
  (.block 0 (.loop (.seq (.seq (.reg [⟨(some 15), none, .mov (.tmp 5)⟩,
       ⟨(some 16), none, .load true 5 (.tmp 1)⟩,
       ⟨(some 17), none, .call (.fn 65) [(.tmp 16)]⟩,
       ⟨(some 18), none, .bin .leq (.tmp 15) (.tmp 17)⟩])
    (.cond (.tmp 18) (.skip)
      (.exit 0)))
   (.seq (.block 1 (.seq (.draw (.step ⟨(some 21), none, .mov (.tmp 5)⟩ (
       .step ⟨(some 23), none, .mov (.tmp 4)⟩ (
       .ev ⟨(some 22), none, .call (.fn 39) [(.tmp 21)]⟩ [] (
       .ev ⟨(some 24), none, .call (.fn 39) [(.tmp 23)]⟩ [] (
        .step ⟨(some 25), none, .bin .lss (.tmp 22) (.tmp 24)⟩ (
         .step ⟨(some 26), none, .mov (.tmp 25)⟩ (
         .step ⟨(some 27), (some (26, true)), .load true 5 (.tmp 1)⟩ (
         .step ⟨(some 28), (some (26, true)), .load true 5 (.tmp 1)⟩ (
         .step ⟨(some 30), (some (26, true)), .mov (.tmp 5)⟩ (
         .ev ⟨(some 29), (some (26, true)), .call (.fn 65) [(.tmp 28)]⟩ [⟨(some 27), (some (26, true)), .load true 5 (.tmp 1)⟩] (
         .step ⟨(some 31), (some (26, true)), .bin .sub (.tmp 29) (.tmp 30)⟩ (
          .ev ⟨(some 32), (some (26, true)), .call (.fn 66) [(.tmp 27), (.tmp 31), (.lit (.slice none 0 0)), (.lit (.slice none 0 0))]⟩ [⟨(some 28), (some (26, true)), .load true 5 (.tmp 1)⟩] (
          .step ⟨(some 33), (some (26, true)), .len (.tmp 32)⟩ (
           .step ⟨(some 34), (some (26, true)), .bin .gtr (.tmp 33) (.lit (.int .i64 0))⟩ (
           .step ⟨(some 35), none, .pick (.tmp 26) (.tmp 34) (.lit (.bool false))⟩ (
           .done))))
          (.stop)))
         (.stop)))))))
        (.stop))
       (.stop)))))
    (.cond (.tmp 35) (.reg [⟨(some 36), none, .mov (.tmp 5)⟩,
       ⟨(some 4), none, .mov (.tmp 36)⟩])
      (.skip))))
   (.reg [⟨(some 19), none, .mov (.tmp 5)⟩,
     ⟨(some 20), none, .bin .add (.tmp 19) (.lit (.int .i64 1))⟩,
     ⟨(some 5), none, .mov (.tmp 20)⟩]))))))
 (.seq (.reg [⟨(some 37), none, .mov (.tmp 4)⟩,
    ⟨(some 2), none, .mov (.tmp 37)⟩,
    ⟨(some 3), none, .mov (.lit (.int .i64 0))⟩])
 (.ret))))))
theorem k30 : FnC Tryd.prog 30 38 [] [] [.tmp 2, .tmp 3] c30 1 := ⟨Tryd.f30, _, Tryd.func30, rfl, by decide, rfl, by decide, by kernel_rfl, by kernel_rfl⟩
/-- dipworks/dipworksref10.Flag -/
def c36 : AC :=
 .seq (.reg [⟨(some 1), none, .box (.tmp 0)⟩,
    ⟨(some 2), none, .mov (.lit (.bool false))⟩])
 (.seq (.seq (.reg [⟨(some 6), none, .faddr 0 (.tmp 1)⟩,
     ⟨(some 7), none, .load false 1 (.tmp 6)⟩,
     ⟨(some 8), none, .bin .lss (.tmp 7) (.lit (.int .i64 1))⟩,
     ⟨(some 9), none, .mov (.tmp 8)⟩,
     ⟨(some 10), (some (9, false)), .faddr 0 (.tmp 1)⟩,
     ⟨(some 11), (some (9, false)), .load false 1 (.tmp 10)⟩,
     ⟨(some 12), (some (9, false)), .faddr 1 (.tmp 1)⟩,
     ⟨(some 13), (some (9, false)), .load false 1 (.tmp 12)⟩,
     ⟨(some 14), (some (9, false)), .bin .gtr (.tmp 11) (.tmp 13)⟩,
     ⟨(some 15), none, .pick (.tmp 9) (.lit (.bool true)) (.tmp 14)⟩,
     ⟨(some 16), none, .mov (.tmp 15)⟩,
     ⟨(some 17), (some (16, false)), .faddr 1 (.tmp 1)⟩,
     ⟨(some 18), (some (16, false)), .load false 1 (.tmp 17)⟩,
     ⟨(some 19), (some (16, false)), .bin .gtr (.tmp 18) (.lit (.int .i64 12))⟩,
     ⟨(some 20), none, .pick (.tmp 16) (.lit (.bool true)) (.tmp 19)⟩,
     ⟨(some 21), none, .mov (.tmp 20)⟩,
     ⟨(some 22), (some (21, false)), .faddr 2 (.tmp 1)⟩,
     ⟨(some 23), (some (21, false)), .load false 1 (.tmp 22)⟩,
     ⟨(some 24), (some (21, false)), .call (.fn 59) [(.tmp 23), (.lit (.int .i64 1)), (.lit (.int .i64 4))]⟩,
     ⟨(some 25), (some (21, false)), .un .not (.tmp 24)⟩,
     ⟨(some 26), none, .pick (.tmp 21) (.lit (.bool true)) (.tmp 25)⟩,
     ⟨(some 27), none, .mov (.tmp 26)⟩,
     ⟨(some 28), (some (27, false)), .faddr 3 (.tmp 1)⟩,
     ⟨(some 29), (some (27, false)), .load false 1 (.tmp 28)⟩,
     ⟨(some 30), (some (27, false)), .len (.tmp 29)⟩,
     ⟨(some 31), (some (27, false)), .bin .gtr (.tmp 30) (.lit (.int .i64 9))⟩,
     ⟨(some 32), none, .pick (.tmp 27) (.lit (.bool true)) (.tmp 31)⟩,
     ⟨(some 33), none, .mov (.tmp 32)⟩,
     ⟨(some 34), (some (33, false)), .faddr 4 (.tmp 1)⟩,
     ⟨(some 35), (some (33, false)), .load false 1 (.tmp 34)⟩,
     ⟨(some 36), (some (33, false)), .len (.tmp 35)⟩,
     ⟨(some 37), (some (33, false)), .bin .gtr (.tmp 36) (.lit (.int .i64 8))⟩,
     ⟨(some 38), none, .pick (.tmp 33) (.lit (.bool true)) (.tmp 37)⟩])
  (.cond (.tmp 38) (.seq (.reg [⟨(some 2), none, .mov (.lit (.bool false))⟩])
   (.ret))
    (.skip)))
 (.seq (.seq (.reg [⟨(some 3), none, .mov (.lit (.int .i64 0))⟩])
  (.block 0 (.loop (.seq (.seq (.reg [⟨(some 39), none, .mov (.tmp 3)⟩,
       ⟨(some 40), none, .faddr 3 (.tmp 1)⟩,
       ⟨(some 41), none, .load false 1 (.tmp 40)⟩,
       ⟨(some 42), none, .len (.tmp 41)⟩,
       ⟨(some 43), none, .bin .lss (.tmp 39) (.tmp 42)⟩])
    (.cond (.tmp 43) (.skip)
      (.exit 0)))
   (.seq (.block 1 (.seq (.reg [⟨(some 46), none, .faddr 3 (.tmp 1)⟩,
       ⟨(some 47), none, .load false 1 (.tmp 46)⟩,
       ⟨(some 48), none, .mov (.tmp 3)⟩,
       ⟨(some 49), none, .iaddr 3 (.tmp 47) (.tmp 48)⟩,
       ⟨(some 50), none, .load true 3 (.tmp 49)⟩,
       ⟨(some 4), none, .alloc [(.int .i64 0), (.int .i64 0), (.int .i64 0)]⟩,
       ⟨none, none, .store 3 (.tmp 4) (.tmp 50)⟩])
    (.seq (.reg [⟨(some 51), none, .faddr 0 (.tmp 4)⟩,
       ⟨(some 52), none, .faddr 0 (.tmp 51)⟩,
       ⟨(some 53), none, .load false 1 (.tmp 52)⟩,
       ⟨(some 54), none, .bin .lss (.tmp 53) (.lit (.int .i64 0))⟩,
       ⟨(some 55), none, .mov (.tmp 54)⟩,
       ⟨(some 56), (some (55, false)), .faddr 0 (.tmp 4)⟩,
       ⟨(some 57), (some (55, false)), .faddr 0 (.tmp 56)⟩,
       ⟨(some 58), (some (55, false)), .load false 1 (.tmp 57)⟩,
       ⟨(some 59), (some (55, false)), .faddr 0 (.tmp 4)⟩,
       ⟨(some 60), (some (55, false)), .faddr 1 (.tmp 59)⟩,
       ⟨(some 61), (some (55, false)), .load false 1 (.tmp 60)⟩,
       ⟨(some 62), (some (55, false)), .bin .gtr (.tmp 58) (.tmp 61)⟩,
       ⟨(some 63), none, .pick (.tmp 55) (.lit (.bool true)) (.tmp 62)⟩,
       ⟨(some 64), none, .mov (.tmp 63)⟩,
       ⟨(some 65), (some (64, false)), .faddr 0 (.tmp 4)⟩,
       ⟨(some 66), (some (64, false)), .faddr 1 (.tmp 65)⟩,
       ⟨(some 67), (some (64, false)), .load false 1 (.tmp 66)⟩,
       ⟨(some 68), (some (64, false)), .bin .gtr (.tmp 67) (.lit (.int .i64 12))⟩,
       ⟨(some 69), none, .pick (.tmp 64) (.lit (.bool true)) (.tmp 68)⟩,
       ⟨(some 70), none, .mov (.tmp 69)⟩,
       ⟨(some 71), (some (70, false)), .faddr 2 (.tmp 4)⟩,
       ⟨(some 72), (some (70, false)), .load false 1 (.tmp 71)⟩,
       ⟨(some 73), (some (70, false)), .call (.fn 59) [(.tmp 72), (.lit (.int .i64 0)), (.lit (.int .i64 2))]⟩,
       ⟨(some 74), (some (70, false)), .un .not (.tmp 73)⟩,
       ⟨(some 75), none, .pick (.tmp 70) (.lit (.bool true)) (.tmp 74)⟩])
    (.cond (.tmp 75) (.seq (.reg [⟨(some 2), none, .mov (.lit (.bool false))⟩])
     (.ret))
      (.skip)))))
   (.reg [⟨(some 44), none, .mov (.tmp 3)⟩,
     ⟨(some 45), none, .bin .add (.tmp 44) (.lit (.int .i64 1))⟩,
     ⟨(some 3), none, .mov (.tmp 45)⟩]))))))
 (.seq (.seq (.reg [⟨(some 5), none, .mov (.lit (.int .i64 0))⟩])
  (.block 2 (.loop (.seq (.seq (.reg [⟨(some 76), none, .mov (.tmp 5)⟩,
       ⟨(some 77), none, .faddr 4 (.tmp 1)⟩,
       ⟨(some 78), none, .load false 1 (.tmp 77)⟩,
       ⟨(some 79), none, .len (.tmp 78)⟩,
       ⟨(some 80), none, .bin .lss (.tmp 76) (.tmp 79)⟩])
    (.cond (.tmp 80) (.skip)
      (.exit 2)))
   (.seq (.block 3 (.seq (.draw (.step ⟨(some 83), none, .load true 5 (.tmp 1)⟩ (
       .step ⟨(some 84), none, .faddr 4 (.tmp 1)⟩ (
       .step ⟨(some 85), none, .load false 1 (.tmp 84)⟩ (
       .step ⟨(some 86), none, .mov (.tmp 5)⟩ (
       .step ⟨(some 87), none, .iaddr 2 (.tmp 85) (.tmp 86)⟩ (
       .step ⟨(some 88), none, .faddr 0 (.tmp 87)⟩ (
       .step ⟨(some 89), none, .load false 1 (.tmp 88)⟩ (
       .ev ⟨(some 90), none, .call (.fn 47) [(.tmp 83), (.tmp 89)]⟩ [⟨(some 88), none, .faddr 0 (.tmp 87)⟩, ⟨(some 87), none, .iaddr 2 (.tmp 85) (.tmp 86)⟩, ⟨(some 85), none, .load false 1 (.tmp 84)⟩, ⟨(some 84), none, .faddr 4 (.tmp 1)⟩] (
       .step ⟨(some 91), none, .un .not (.tmp 90)⟩ (
        .done))
       (.stop))))))))))
    (.cond (.tmp 91) (.seq (.reg [⟨(some 2), none, .mov (.lit (.bool false))⟩])
     (.ret))
      (.skip))))
   (.reg [⟨(some 81), none, .mov (.tmp 5)⟩,
     ⟨(some 82), none, .bin .add (.tmp 81) (.lit (.int .i64 1))⟩,
     ⟨(some 5), none, .mov (.tmp 82)⟩]))))))
 (.seq (.reg [⟨(some 2), none, .mov (.lit (.bool true))⟩])
 (.ret)))))
theorem k36 : FnC Tryd.prog 36 92 [] [] [.tmp 2] c36 1 := ⟨Tryd.f36, _, Tryd.func36, rfl, by decide, rfl, by decide, by kernel_rfl, by kernel_rfl⟩
/-- dipworks/dipworksref10.Size -/
def c39 : AC :=
 .seq (.reg [⟨(some 2), none, .mov (.lit (.int .i64 0))⟩])
 (.seq (.reg [⟨(some 3), none, .mov (.lit (.int .i64 0))⟩])
 (.seq (.block 0 (.loop (.seq (.seq (.reg [⟨(some 4), none, .mov (.tmp 0)⟩,
       ⟨(some 5), none, .bin .gtr (.tmp 4) (.lit (.int .i64 0))⟩])
    (.cond (.tmp 5) (.skip)
      (.exit 0)))
   (.block 1 (.reg [⟨(some 6), none, .mov (.tmp 3)⟩,
     ⟨(some 7), none, .mov (.tmp 0)⟩,
     ⟨(some 8), none, .bin .rem (.tmp 7) (.lit (.int .i64 2))⟩,
     ⟨(some 9), none, .bin .add (.tmp 6) (.tmp 8)⟩,
     ⟨(some 10), none, .mov (.tmp 0)⟩,
     ⟨(some 11), none, .bin .quo (.tmp 10) (.lit (.int .i64 2))⟩,
     ⟨(some 3), none, .mov (.tmp 9)⟩,
     ⟨(some 0), none, .mov (.tmp 11)⟩])))))
 (.seq (.reg [⟨(some 12), none, .mov (.tmp 3)⟩,
    ⟨(some 2), none, .mov (.tmp 12)⟩])
 (.ret))))
theorem k39 : FnC Tryd.prog 39 13 [] [] [.tmp 2] c39 1 := ⟨Tryd.f39, _, Tryd.func39, rfl, by decide, rfl, by decide, by kernel_rfl, by kernel_rfl⟩
/-- dipworks/dipworksref10.Hour -/
def c47 : AC :=
 .seq (.reg [⟨(some 2), none, .box (.tmp 0)⟩,
    ⟨(some 4), none, .mov (.lit (.bool false))⟩])
 (.seq (.reg [⟨(some 5), none, .mov (.tmp 1)⟩,
    ⟨(some 6), none, .faddr 3 (.tmp 2)⟩,
    ⟨(some 7), none, .load false 1 (.tmp 6)⟩,
    ⟨(some 8), none, .len (.tmp 7)⟩,
    ⟨(some 9), none, .bin .sub (.tmp 8) (.lit (.int .i64 1))⟩,
    ⟨(some 10), none, .call (.fn 59) [(.tmp 5), (.lit (.int .i64 0)), (.tmp 9)]⟩,
    ⟨(some 4), none, .mov (.tmp 10)⟩])
 (.ret))
theorem k47 : FnC Tryd.prog 47 11 [] [] [.tmp 4] c47 2 := ⟨Tryd.f47, _, Tryd.func47, rfl, by decide, rfl, by decide, by kernel_rfl, by kernel_rfl⟩
/-- dipworks/dipworksref10.Can -/
def c48 : AC :=
 .seq (.reg [⟨(some 3), none, .box (.tmp 0)⟩,
    ⟨(some 6), none, .mov (.lit (.bool false))⟩])
 (.seq (.reg [⟨(some 9), none, .faddr 3 (.tmp 3)⟩,
    ⟨(some 10), none, .load false 1 (.tmp 9)⟩,
    ⟨(some 11), none, .mov (.tmp 1)⟩,
    ⟨(some 12), none, .iaddr 3 (.tmp 10) (.tmp 11)⟩,
    ⟨(some 13), none, .load true 3 (.tmp 12)⟩,
    ⟨(some 7), none, .alloc [(.int .i64 0), (.int .i64 0), (.int .i64 0)]⟩,
    ⟨none, none, .store 3 (.tmp 7) (.tmp 13)⟩])
 (.seq (.seq (.reg [⟨(some 14), none, .faddr 0 (.tmp 7)⟩,
     ⟨(some 15), none, .faddr 0 (.tmp 14)⟩,
     ⟨(some 16), none, .load false 1 (.tmp 15)⟩,
     ⟨(some 8), none, .mov (.tmp 16)⟩])
  (.block 0 (.loop (.seq (.seq (.reg [⟨(some 17), none, .mov (.tmp 8)⟩,
       ⟨(some 18), none, .faddr 0 (.tmp 7)⟩,
       ⟨(some 19), none, .faddr 1 (.tmp 18)⟩,
       ⟨(some 20), none, .load false 1 (.tmp 19)⟩,
       ⟨(some 21), none, .bin .leq (.tmp 17) (.tmp 20)⟩])
    (.cond (.tmp 21) (.skip)
      (.exit 0)))
   (.seq (.block 1 (.seq (.reg [⟨(some 24), none, .faddr 2 (.tmp 7)⟩,
       ⟨(some 25), none, .load false 1 (.tmp 24)⟩,
       ⟨(some 26), none, .bin .neq (.tmp 25) (.lit (.int .i64 0))⟩,
       ⟨(some 27), none, .mov (.tmp 26)⟩,
       ⟨(some 28), (some (27, true)), .load true 5 (.tmp 3)⟩,
       ⟨(some 29), (some (27, true)), .mov (.tmp 8)⟩,
       ⟨(some 30), (some (27, true)), .call (.fn 71) [(.tmp 28), (.tmp 29), (.lit (.bool true))]⟩,
       ⟨(some 31), (some (27, true)), .mov (.tmp 2)⟩,
       ⟨(some 32), (some (27, true)), .bin .eql (.tmp 30) (.tmp 31)⟩,
       ⟨(some 33), none, .pick (.tmp 27) (.tmp 32) (.lit (.bool false))⟩,
       ⟨(some 34), none, .mov (.tmp 33)⟩,
       ⟨(some 35), (some (34, false)), .faddr 2 (.tmp 7)⟩,
       ⟨(some 36), (some (34, false)), .load false 1 (.tmp 35)⟩,
       ⟨(some 37), (some (34, false)), .bin .neq (.tmp 36) (.lit (.int .i64 2))⟩,
       ⟨(some 38), (some (34, false)), .mov (.tmp 37)⟩,
       ⟨(some 39), (some (38, true)), .load true 5 (.tmp 3)⟩,
       ⟨(some 40), (some (38, true)), .mov (.tmp 8)⟩,
       ⟨(some 41), (some (38, true)), .call (.fn 71) [(.tmp 39), (.tmp 40), (.lit (.bool false))]⟩,
       ⟨(some 42), (some (38, true)), .mov (.tmp 2)⟩,
       ⟨(some 43), (some (38, true)), .bin .eql (.tmp 41) (.tmp 42)⟩,
       ⟨(some 44), (some (34, false)), .pick (.tmp 38) (.tmp 43) (.lit (.bool false))⟩,
       ⟨(some 45), none, .pick (.tmp 34) (.lit (.bool true)) (.tmp 44)⟩])
    (.cond (.tmp 45) (.seq (.reg [⟨(some 6), none, .mov (.lit (.bool true))⟩])
     (.ret))
      (.skip))))
   (.reg [⟨(some 22), none, .mov (.tmp 8)⟩,
     ⟨(some 23), none, .bin .add (.tmp 22) (.lit (.int .i64 1))⟩,
     ⟨(some 8), none, .mov (.tmp 23)⟩]))))))
 (.seq (.reg [⟨(some 6), none, .mov (.lit (.bool false))⟩])
 (.ret))))
theorem k48 : FnC Tryd.prog 48 46 [] [] [.tmp 6] c48 3 := ⟨Tryd.f48, _, Tryd.func48, rfl, by decide, rfl, by decide, by kernel_rfl, by kernel_rfl⟩
/-- dipworks/dipworksref10.power -/
def c49 : AC :=
 .seq (.reg [⟨(some 2), none, .mov (.lit (.int .i64 0))⟩])
 (.seq (.reg [⟨(some 3), none, .mov (.lit (.int .i64 1))⟩])
 (.seq (.seq (.reg [⟨(some 4), none, .mov (.lit (.int .i64 0))⟩])
  (.block 0 (.loop (.seq (.seq (.reg [⟨(some 5), none, .mov (.tmp 4)⟩,
       ⟨(some 6), none, .mov (.tmp 0)⟩,
       ⟨(some 7), none, .bin .lss (.tmp 5) (.tmp 6)⟩])
    (.cond (.tmp 7) (.skip)
      (.exit 0)))
   (.seq (.block 1 (.reg [⟨(some 10), none, .mov (.tmp 3)⟩,
      ⟨(some 11), none, .bin .mul (.lit (.int .i64 2)) (.tmp 10)⟩,
      ⟨(some 3), none, .mov (.tmp 11)⟩]))
   (.reg [⟨(some 8), none, .mov (.tmp 4)⟩,
     ⟨(some 9), none, .bin .add (.tmp 8) (.lit (.int .i64 1))⟩,
     ⟨(some 4), none, .mov (.tmp 9)⟩]))))))
 (.seq (.reg [⟨(some 12), none, .mov (.tmp 3)⟩,
    ⟨(some 2), none, .mov (.tmp 12)⟩])
 (.ret))))
theorem k49 : FnC Tryd.prog 49 13 [] [] [.tmp 2] c49 1 := ⟨Tryd.f49, _, Tryd.func49, rfl, by decide, rfl, by decide, by kernel_rfl, by kernel_rfl⟩
/-- dipworks/dipworksref10.told -/
def c53 : AC :=
 .seq (.reg [⟨(some 2), none, .box (.tmp 0)⟩,
    ⟨(some 4), none, .mov (.lit (.slice none 0 0))⟩,
    ⟨(some 5), none, .mov (.lit (.int .i64 0))⟩])
 (.seq (.seq (.reg [⟨(some 7), none, .load true 5 (.tmp 2)⟩,
     ⟨(some 8), none, .call (.fn 36) [(.tmp 7)]⟩,
     ⟨(some 9), none, .un .not (.tmp 8)⟩])
  (.cond (.tmp 9) (.seq (.reg [⟨(some 4), none, .mov (.lit (.slice none 0 0))⟩,
      ⟨(some 5), none, .mov (.lit (.int .i64 1))⟩])
   (.ret))
    (.skip)))
 (.seq (.seq (.reg [⟨(some 10), none, .mov (.tmp 1)⟩,
     ⟨(some 11), none, .un .not (.tmp 10)⟩])
  (.cond (.tmp 11) (.seq (.reg [⟨(some 4), none, .mov (.lit (.slice none 0 0))⟩,
      ⟨(some 5), none, .mov (.lit (.int .i64 2))⟩])
   (.ret))
    (.skip)))
 (.seq (.reg [⟨(some 12), none, .load true 5 (.tmp 2)⟩,
    ⟨(some 13), none, .call (.fn 55) [(.tmp 12)]⟩,
    ⟨(some 6), none, .mov (.tmp 13)⟩])
 (.seq (.seq (.reg [⟨(some 14), none, .mov (.tmp 6)⟩,
     ⟨(some 15), none, .len (.tmp 14)⟩,
     ⟨(some 16), none, .bin .eql (.tmp 15) (.lit (.int .i64 0))⟩])
  (.cond (.tmp 16) (.seq (.reg [⟨(some 4), none, .mov (.lit (.slice none 0 0))⟩,
      ⟨(some 5), none, .mov (.lit (.int .i64 10))⟩])
   (.ret))
    (.skip)))
 (.seq (.reg [⟨(some 17), none, .mov (.tmp 6)⟩,
    ⟨(some 4), none, .mov (.tmp 17)⟩,
    ⟨(some 5), none, .mov (.lit (.int .i64 0))⟩])
 (.ret))))))
theorem k53 : FnC Tryd.prog 53 18 [] [] [.tmp 4, .tmp 5] c53 2 := ⟨Tryd.f53, _, Tryd.func53, rfl, by decide, rfl, by decide, by kernel_rfl, by kernel_rfl⟩
/-- dipworks/dipworksref10.many -/
def c54 : AC :=
 .seq (.reg [⟨(some 3), none, .box (.tmp 0)⟩,
    ⟨(some 6), none, .mov (.lit (.int .i64 0))⟩])
 (.seq (.reg [⟨(some 7), none, .mov (.lit (.int .i64 0))⟩])
 (.seq (.seq (.reg [⟨(some 8), none, .mov (.lit (.int .i64 0))⟩])
  (.block 0 (.loop (.seq (.seq (.reg [⟨(some 9), none, .mov (.tmp 8)⟩,
       ⟨(some 10), none, .mov (.tmp 1)⟩,
       ⟨(some 11), none, .len (.tmp 10)⟩,
       ⟨(some 12), none, .bin .lss (.tmp 9) (.tmp 11)⟩])
    (.cond (.tmp 12) (.skip)
      (.exit 0)))
   (.seq (.block 1 (.seq (.draw (.step ⟨(some 15), none, .load true 5 (.tmp 3)⟩ (
       .step ⟨(some 16), none, .mov (.tmp 1)⟩ (
       .step ⟨(some 17), none, .mov (.tmp 8)⟩ (
       .step ⟨(some 18), none, .iaddr 1 (.tmp 16) (.tmp 17)⟩ (
       .step ⟨(some 19), none, .load false 1 (.tmp 18)⟩ (
       .step ⟨(some 21), none, .mov (.tmp 2)⟩ (
       .ev ⟨(some 20), none, .call (.fn 58) [(.tmp 15), (.tmp 19)]⟩ [⟨(some 18), none, .iaddr 1 (.tmp 16) (.tmp 17)⟩] (
       .step ⟨(some 22), none, .iaddr 1 (.tmp 20) (.tmp 21)⟩ (
        .step ⟨(some 23), none, .load false 1 (.tmp 22)⟩ (
        .done)))
       (.stop)))))))))
    (.cond (.tmp 23) (.reg [⟨(some 24), none, .mov (.tmp 7)⟩,
       ⟨(some 25), none, .bin .add (.tmp 24) (.lit (.int .i64 1))⟩,
       ⟨(some 7), none, .mov (.tmp 25)⟩])
      (.skip))))
   (.reg [⟨(some 13), none, .mov (.tmp 8)⟩,
     ⟨(some 14), none, .bin .add (.tmp 13) (.lit (.int .i64 1))⟩,
     ⟨(some 8), none, .mov (.tmp 14)⟩]))))))
 (.seq (.reg [⟨(some 26), none, .mov (.tmp 7)⟩,
    ⟨(some 6), none, .mov (.tmp 26)⟩])
 (.ret))))
theorem k54 : FnC Tryd.prog 54 27 [] [] [.tmp 6] c54 3 := ⟨Tryd.f54, _, Tryd.func54, rfl, by decide, rfl, by decide, by kernel_rfl, by kernel_rfl⟩
/-- dipworks/dipworksref10.Truths -/
def c55 : AC :=
 .seq (.reg [⟨(some 1), none, .box (.tmp 0)⟩,
    ⟨(some 2), none, .mov (.lit (.slice none 0 0))⟩])
 (.seq (.draw (.step ⟨(some 3), none, .load true 5 (.tmp 1)⟩ (
    .step ⟨(some 4), none, .load true 5 (.tmp 1)⟩ (
    .ev ⟨(some 5), none, .call (.fn 65) [(.tmp 4)]⟩ [⟨(some 3), none, .load true 5 (.tmp 1)⟩] (
    .ev ⟨(some 6), none, .call (.fn 66) [(.tmp 3), (.tmp 5), (.lit (.slice none 0 0)), (.lit (.slice none 0 0))]⟩ [⟨(some 4), none, .load true 5 (.tmp 1)⟩] (
     .step ⟨(some 2), none, .mov (.tmp 6)⟩ (
      .done))
     (.stop))
    (.stop)))))
 (.ret))
theorem k55 : FnC Tryd.prog 55 7 [] [] [.tmp 2] c55 1 := ⟨Tryd.f55, _, Tryd.func55, rfl, by decide, rfl, by decide, by kernel_rfl, by kernel_rfl⟩
/-- dipworks/dipworksref10.long -/
def c57 : AC :=
 .seq (.reg [⟨(some 6), none, .mov (.lit (.int .i64 0))⟩])
 (.seq (.reg [⟨(some 7), none, .mov (.lit (.int .i64 0))⟩])
 (.seq (.seq (.reg [⟨(some 9), none, .mov (.tmp 1)⟩,
     ⟨(some 8), none, .mov (.tmp 9)⟩])
  (.block 0 (.loop (.seq (.seq (.reg [⟨(some 10), none, .mov (.tmp 8)⟩,
       ⟨(some 11), none, .mov (.tmp 2)⟩,
       ⟨(some 12), none, .bin .lss (.tmp 10) (.tmp 11)⟩])
    (.cond (.tmp 12) (.skip)
      (.exit 0)))
   (.seq (.block 1 (.seq (.reg [⟨(some 15), none, .mov (.tmp 0)⟩,
       ⟨(some 16), none, .mov (.tmp 8)⟩,
       ⟨(some 17), none, .iaddr 1 (.tmp 15) (.tmp 16)⟩,
       ⟨(some 18), none, .load false 1 (.tmp 17)⟩])
    (.cond (.tmp 18) (.reg [⟨(some 19), none, .mov (.tmp 7)⟩,
       ⟨(some 20), none, .bin .add (.tmp 19) (.lit (.int .i64 1))⟩,
       ⟨(some 7), none, .mov (.tmp 20)⟩])
      (.skip))))
   (.reg [⟨(some 13), none, .mov (.tmp 8)⟩,
     ⟨(some 14), none, .bin .add (.tmp 13) (.lit (.int .i64 1))⟩,
     ⟨(some 8), none, .mov (.tmp 14)⟩]))))))
 (.seq (.reg [⟨(some 21), none, .mov (.tmp 7)⟩,
    ⟨(some 6), none, .mov (.tmp 21)⟩])
 (.ret))))
theorem k57 : FnC Tryd.prog 57 22 [] [] [.tmp 6] c57 3 := ⟨Tryd.f57, _, Tryd.func57, rfl, by decide, rfl, by decide, by kernel_rfl, by kernel_rfl⟩
/-- dipworks/dipworksref10.Raised -/
def c58 : AC :=
 .seq (.reg [⟨(some 2), none, .box (.tmp 0)⟩,
    ⟨(some 4), none, .mov (.lit (.slice none 0 0))⟩])
 (.seq (.reg [⟨(some 5), none, .mov (.lit (.slice none 0 0))⟩])
 (.seq (.reg [⟨(some 6), none, .mov (.lit (.bool false))⟩,
    ⟨(some 7), none, .mov (.lit (.int .i64 0))⟩])
 (.seq (.seq (.reg [⟨(some 8), none, .mov (.lit (.int .i64 0))⟩])
  (.block 0 (.loop (.seq (.seq (.reg [⟨(some 9), none, .mov (.tmp 8)⟩,
       ⟨(some 10), none, .mov (.tmp 1)⟩,
       ⟨(some 11), none, .len (.tmp 10)⟩,
       ⟨(some 12), none, .bin .lss (.tmp 9) (.tmp 11)⟩])
    (.cond (.tmp 12) (.skip)
      (.exit 0)))
   (.seq (.block 1 (.seq (.seq (.reg [⟨(some 15), none, .mov (.tmp 6)⟩,
        ⟨(some 16), none, .un .not (.tmp 15)⟩,
        ⟨(some 17), none, .mov (.tmp 16)⟩,
        ⟨(some 18), (some (17, true)), .mov (.tmp 1)⟩,
        ⟨(some 19), (some (17, true)), .mov (.tmp 8)⟩,
        ⟨(some 20), (some (17, true)), .iaddr 1 (.tmp 18) (.tmp 19)⟩,
        ⟨(some 21), (some (17, true)), .load false 1 (.tmp 20)⟩,
        ⟨(some 22), (some (17, true)), .bin .eql (.tmp 21) (.lit (.int .i64 2))⟩,
        ⟨(some 23), none, .pick (.tmp 17) (.tmp 22) (.lit (.bool false))⟩])
     (.cond (.tmp 23) (.reg [⟨(some 6), none, .mov (.lit (.bool true))⟩,
        ⟨(some 7), none, .mov (.lit (.int .i64 0))⟩])
       (.skip)))
    (.seq (.reg [⟨(some 24), none, .mov (.tmp 5)⟩,
       ⟨(some 25), none, .mov (.tmp 6)⟩,
       ⟨(some 26), none, .bslice 1 (.bool false) 1 [(0, (.tmp 25))]⟩,
       ⟨(some 27), none, .app 1 1 (.tmp 24) (.tmp 26)⟩,
       ⟨(some 5), none, .mov (.tmp 27)⟩])
    (.seq (.seq (.reg [⟨(some 28), none, .mov (.tmp 6)⟩,
        ⟨(some 29), none, .mov (.tmp 28)⟩,
        ⟨(some 30), (some (29, true)), .mov (.tmp 1)⟩,
        ⟨(some 31), (some (29, true)), .mov (.tmp 8)⟩,
        ⟨(some 32), (some (29, true)), .iaddr 1 (.tmp 30) (.tmp 31)⟩,
        ⟨(some 33), (some (29, true)), .load false 1 (.tmp 32)⟩,
        ⟨(some 34), (some (29, true)), .bin .eql (.tmp 33) (.lit (.int .i64 0))⟩,
        ⟨(some 35), none, .pick (.tmp 29) (.tmp 34) (.lit (.bool false))⟩])
     (.cond (.tmp 35) (.reg [⟨(some 36), none, .mov (.tmp 7)⟩,
        ⟨(some 37), none, .bin .add (.tmp 36) (.lit (.int .i64 1))⟩,
        ⟨(some 7), none, .mov (.tmp 37)⟩])
       (.reg [⟨(some 7), none, .mov (.lit (.int .i64 0))⟩])))
    (.seq (.reg [⟨(some 38), none, .mov (.tmp 6)⟩,
       ⟨(some 39), none, .mov (.tmp 38)⟩,
       ⟨(some 40), (some (39, true)), .mov (.tmp 7)⟩,
       ⟨(some 41), (some (39, true)), .faddr 2 (.tmp 2)⟩,
       ⟨(some 42), (some (39, true)), .load false 1 (.tmp 41)⟩,
       ⟨(some 43), (some (39, true)), .bin .eql (.tmp 40) (.tmp 42)⟩,
       ⟨(some 44), none, .pick (.tmp 39) (.tmp 43) (.lit (.bool false))⟩])
    (.cond (.tmp 44) (.reg [⟨(some 6), none, .mov (.lit (.bool false))⟩,
       ⟨(some 7), none, .mov (.lit (.int .i64 0))⟩])
      (.skip)))))))
   (.reg [⟨(some 13), none, .mov (.tmp 8)⟩,
     ⟨(some 14), none, .bin .add (.tmp 13) (.lit (.int .i64 1))⟩,
     ⟨(some 8), none, .mov (.tmp 14)⟩]))))))
 (.seq (.reg [⟨(some 45), none, .mov (.tmp 5)⟩,
    ⟨(some 4), none, .mov (.tmp 45)⟩])
 (.ret)))))
theorem k58 : FnC Tryd.prog 58 46 [] [] [.tmp 4] c58 2 := ⟨Tryd.f58, _, Tryd.func58, rfl, by decide, rfl, by decide, by kernel_rfl, by kernel_rfl⟩
/-- dipworks/dipworksref10.in -/
def c59 : AC :=
 .seq (.reg [⟨(some 6), none, .mov (.lit (.bool false))⟩])
 (.seq (.reg [⟨(some 7), none, .mov (.tmp 1)⟩,
    ⟨(some 8), none, .mov (.tmp 0)⟩,
    ⟨(some 9), none, .bin .leq (.tmp 7) (.tmp 8)⟩,
    ⟨(some 10), none, .mov (.tmp 9)⟩,
    ⟨(some 11), (some (10, true)), .mov (.tmp 0)⟩,
    ⟨(some 12), (some (10, true)), .mov (.tmp 2)⟩,
    ⟨(some 13), (some (10, true)), .bin .leq (.tmp 11) (.tmp 12)⟩,
    ⟨(some 14), none, .pick (.tmp 10) (.tmp 13) (.lit (.bool false))⟩,
    ⟨(some 6), none, .mov (.tmp 14)⟩])
 (.ret))
theorem k59 : FnC Tryd.prog 59 15 [] [] [.tmp 6] c59 3 := ⟨Tryd.f59, _, Tryd.func59, rfl, by decide, rfl, by decide, by kernel_rfl, by kernel_rfl⟩
/-- dipworks/dipworksref10.left -/
def c63 : AC :=
 .seq (.reg [⟨(some 4), none, .mov (.lit (.int .i64 0))⟩])
 (.seq (.reg [⟨(some 5), none, .mov (.lit (.int .i64 0))⟩])
 (.seq (.seq (.reg [⟨(some 6), none, .mov (.lit (.int .i64 0))⟩])
  (.block 0 (.loop (.seq (.seq (.reg [⟨(some 9), none, .mov (.tmp 6)⟩,
       ⟨(some 10), none, .bin .leq (.tmp 9) (.lit (.int .i64 2))⟩])
    (.cond (.tmp 10) (.skip)
      (.exit 0)))
   (.seq (.block 1 (.seq (.reg [⟨(some 7), none, .mov (.lit (.int .i64 0))⟩])
    (.seq (.seq (.reg [⟨(some 8), none, .mov (.lit (.int .i64 0))⟩])
     (.block 2 (.loop (.seq (.seq (.reg [⟨(some 13), none, .mov (.tmp 8)⟩,
          ⟨(some 14), none, .mov (.tmp 0)⟩,
          ⟨(some 15), none, .len (.tmp 14)⟩,
          ⟨(some 16), none, .bin .lss (.tmp 13) (.tmp 15)⟩])
       (.cond (.tmp 16) (.skip)
         (.exit 2)))
      (.seq (.block 3 (.seq (.reg [⟨(some 19), none, .mov (.tmp 0)⟩,
          ⟨(some 20), none, .mov (.tmp 8)⟩,
          ⟨(some 21), none, .iaddr 1 (.tmp 19) (.tmp 20)⟩,
          ⟨(some 22), none, .load false 1 (.tmp 21)⟩,
          ⟨(some 23), none, .mov (.tmp 1)⟩,
          ⟨(some 24), none, .iaddr 1 (.tmp 22) (.tmp 23)⟩,
          ⟨(some 25), none, .load false 1 (.tmp 24)⟩,
          ⟨(some 26), none, .mov (.tmp 6)⟩,
          ⟨(some 27), none, .bin .eql (.tmp 25) (.tmp 26)⟩])
       (.cond (.tmp 27) (.reg [⟨(some 28), none, .mov (.tmp 7)⟩,
          ⟨(some 29), none, .bin .add (.tmp 28) (.lit (.int .i64 1))⟩,
          ⟨(some 7), none, .mov (.tmp 29)⟩])
         (.skip))))
      (.reg [⟨(some 17), none, .mov (.tmp 8)⟩,
        ⟨(some 18), none, .bin .add (.tmp 17) (.lit (.int .i64 1))⟩,
        ⟨(some 8), none, .mov (.tmp 18)⟩]))))))
    (.reg [⟨(some 30), none, .mov (.tmp 5)⟩,
      ⟨(some 31), none, .mov (.tmp 7)⟩,
      ⟨(some 32), none, .mxmn true (.tmp 30) [(.tmp 31)]⟩,
      ⟨(some 5), none, .mov (.tmp 32)⟩]))))
   (.reg [⟨(some 11), none, .mov (.tmp 6)⟩,
     ⟨(some 12), none, .bin .add (.tmp 11) (.lit (.int .i64 1))⟩,
     ⟨(some 6), none, .mov (.tmp 12)⟩]))))))
 (.seq (.reg [⟨(some 33), none, .mov (.tmp 5)⟩,
    ⟨(some 4), none, .mov (.tmp 33)⟩])
 (.ret))))
theorem k63 : FnC Tryd.prog 63 34 [] [] [.tmp 4] c63 2 := ⟨Tryd.f63, _, Tryd.func63, rfl, by decide, rfl, by decide, by kernel_rfl, by kernel_rfl⟩
/-- dipworks/dipworksref10.every -/
def c65 : AC :=
 .seq (.reg [⟨(some 1), none, .box (.tmp 0)⟩,
    ⟨(some 2), none, .mov (.lit (.int .i64 0))⟩])
 (.seq (.reg [⟨(some 3), none, .faddr 4 (.tmp 1)⟩,
    ⟨(some 4), none, .load false 1 (.tmp 3)⟩,
    ⟨(some 5), none, .len (.tmp 4)⟩,
    ⟨(some 6), none, .call (.fn 49) [(.tmp 5)]⟩,
    ⟨(some 7), none, .bin .sub (.tmp 6) (.lit (.int .i64 1))⟩,
    ⟨(some 2), none, .mov (.tmp 7)⟩])
 (.ret))
theorem k65 : FnC Tryd.prog 65 8 [] [] [.tmp 2] c65 1 := ⟨Tryd.f65, _, Tryd.func65, rfl, by decide, rfl, by decide, by kernel_rfl, by kernel_rfl⟩
/-- dipworks/dipworksref10.truths -/
def c66 : AC :=
 .seq (.reg [⟨(some 4), none, .box (.tmp 0)⟩,
    ⟨(some 8), none, .mov (.lit (.slice none 0 0))⟩])
 (.seq (.seq (.reg [⟨(some 10), none, .mov (.tmp 2)⟩,
     ⟨(some 11), none, .len (.tmp 10)⟩,
     ⟨(some 12), none, .faddr 3 (.tmp 4)⟩,
     ⟨(some 13), none, .load false 1 (.tmp 12)⟩,
     ⟨(some 14), none, .len (.tmp 13)⟩,
     ⟨(some 15), none, .bin .eql (.tmp 11) (.tmp 14)⟩])
  (.cond (.tmp 15) (.seq (.seq (.reg [⟨(some 16), none, .load true 5 (.tmp 4)⟩,
       ⟨(some 17), none, .mov (.tmp 2)⟩,
       ⟨(some 18), none, .mov (.tmp 1)⟩,
       ⟨(some 19), none, .call (.fn 82) [(.tmp 16), (.tmp 17), (.tmp 18)]⟩])
    (.cond (.tmp 19) (.reg [⟨(some 20), none, .mov (.tmp 3)⟩,
       ⟨(some 21), none, .mov (.tmp 2)⟩,
       ⟨(some 22), none, .bslice 1 (.slice none 0 0) 1 [(0, (.tmp 21))]⟩,
       ⟨(some 23), none, .app 1 24 (.tmp 20) (.tmp 22)⟩,
       ⟨(some 3), none, .mov (.tmp 23)⟩])
      (.skip)))
   (.seq (.reg [⟨(some 24), none, .mov (.tmp 3)⟩,
      ⟨(some 8), none, .mov (.tmp 24)⟩])
   (.ret)))
    (.skip)))
 (.seq (.seq (.reg [⟨(some 9), none, .mov (.lit (.int .i64 0))⟩])
  (.block 0 (.loop (.seq (.seq (.reg [⟨(some 25), none, .mov (.tmp 9)⟩,
       ⟨(some 26), none, .bin .leq (.tmp 25) (.lit (.int .i64 2))⟩])
    (.cond (.tmp 26) (.skip)
      (.exit 0)))
   (.seq (.block 1 (.seq (.reg [⟨(some 29), none, .load true 5 (.tmp 4)⟩,
       ⟨(some 30), none, .mov (.tmp 2)⟩,
       ⟨(some 31), none, .len (.tmp 30)⟩,
       ⟨(some 32), none, .mov (.tmp 9)⟩,
       ⟨(some 33), none, .call (.fn 48) [(.tmp 29), (.tmp 31), (.tmp 32)]⟩])
    (.cond (.tmp 33) (.seq (.gcp)
     (.draw (.step ⟨(some 34), none, .load true 5 (.tmp 4)⟩ (
       .step ⟨(some 35), none, .mov (.tmp 1)⟩ (
       .step ⟨(some 37), none, .mov (.tmp 2)⟩ (
       .step ⟨(some 39), none, .mov (.tmp 9)⟩ (
       .step ⟨(some 42), none, .mov (.tmp 3)⟩ (
       .ev ⟨(some 36), none, .bslice 1 (.int .i64 0) 0 []⟩ [⟨(some 34), none, .load true 5 (.tmp 4)⟩] (
       .ev ⟨(some 38), none, .app 1 8 (.tmp 36) (.tmp 37)⟩ [⟨(some 34), none, .load true 5 (.tmp 4)⟩] (
        .ev ⟨(some 40), none, .bslice 1 (.int .i64 0) 1 [(0, (.tmp 39))]⟩ [⟨(some 34), none, .load true 5 (.tmp 4)⟩] (
         .ev ⟨(some 41), none, .app 1 8 (.tmp 38) (.tmp 40)⟩ [⟨(some 34), none, .load true 5 (.tmp 4)⟩] (
          .ev ⟨(some 43), none, .call (.fn 66) [(.tmp 34), (.tmp 35), (.tmp 41), (.tmp 42)]⟩ [] (
           .step ⟨(some 3), none, .mov (.tmp 43)⟩ (
            .done))
           (.stop))
          (.stop))
         (.stop))
        (.ev ⟨(some 40), none, .bslice 1 (.int .i64 0) 1 [(0, (.tmp 39))]⟩ [⟨(some 34), none, .load true 5 (.tmp 4)⟩] (
        .ev ⟨(some 38), none, .app 1 8 (.tmp 36) (.tmp 37)⟩ [⟨(some 34), none, .load true 5 (.tmp 4)⟩] (
         .ev ⟨(some 41), none, .app 1 8 (.tmp 38) (.tmp 40)⟩ [⟨(some 34), none, .load true 5 (.tmp 4)⟩] (
          .ev ⟨(some 43), none, .call (.fn 66) [(.tmp 34), (.tmp 35), (.tmp 41), (.tmp 42)]⟩ [] (
           .step ⟨(some 3), none, .mov (.tmp 43)⟩ (
            .done))
           (.stop))
          (.stop))
         (.stop))
        (.stop)))
       (.ev ⟨(some 40), none, .bslice 1 (.int .i64 0) 1 [(0, (.tmp 39))]⟩ [⟨(some 34), none, .load true 5 (.tmp 4)⟩] (
       .ev ⟨(some 36), none, .bslice 1 (.int .i64 0) 0 []⟩ [⟨(some 34), none, .load true 5 (.tmp 4)⟩] (
        .ev ⟨(some 38), none, .app 1 8 (.tmp 36) (.tmp 37)⟩ [⟨(some 34), none, .load true 5 (.tmp 4)⟩] (
         .ev ⟨(some 41), none, .app 1 8 (.tmp 38) (.tmp 40)⟩ [⟨(some 34), none, .load true 5 (.tmp 4)⟩] (
          .ev ⟨(some 43), none, .call (.fn 66) [(.tmp 34), (.tmp 35), (.tmp 41), (.tmp 42)]⟩ [] (
           .step ⟨(some 3), none, .mov (.tmp 43)⟩ (
            .done))
           (.stop))
          (.stop))
         (.stop))
        (.stop))
       (.stop))))))))))
      (.skip))))
   (.reg [⟨(some 27), none, .mov (.tmp 9)⟩,
     ⟨(some 28), none, .bin .add (.tmp 27) (.lit (.int .i64 1))⟩,
     ⟨(some 9), none, .mov (.tmp 28)⟩]))))))
 (.seq (.reg [⟨(some 44), none, .mov (.tmp 3)⟩,
    ⟨(some 8), none, .mov (.tmp 44)⟩])
 (.ret))))
theorem k66 : FnC Tryd.prog 66 45 [] [9] [.tmp 8] c66 4 := ⟨Tryd.f66, _, Tryd.func66, rfl, by decide, rfl, by decide, by kernel_rfl, by kernel_rfl⟩
/-- dipworks/dipworksref10.kind -/
def c71 : AC :=
 .seq (.reg [⟨(some 3), none, .box (.tmp 0)⟩,
    ⟨(some 6), none, .mov (.lit (.int .i64 0))⟩])
 (.seq (.seq (.reg [⟨(some 7), none, .mov (.tmp 2)⟩,
     ⟨(some 8), none, .mov (.tmp 7)⟩,
     ⟨(some 9), (some (8, false)), .mov (.tmp 1)⟩,
     ⟨(some 10), (some (8, false)), .faddr 1 (.tmp 3)⟩,
     ⟨(some 11), (some (8, false)), .load false 1 (.tmp 10)⟩,
     ⟨(some 12), (some (8, false)), .bin .geq (.tmp 9) (.tmp 11)⟩,
     ⟨(some 13), none, .pick (.tmp 8) (.lit (.bool true)) (.tmp 12)⟩])
  (.cond (.tmp 13) (.seq (.reg [⟨(some 6), none, .mov (.lit (.int .i64 2))⟩])
   (.ret))
    (.skip)))
 (.seq (.seq (.reg [⟨(some 14), none, .mov (.tmp 1)⟩,
     ⟨(some 15), none, .faddr 0 (.tmp 3)⟩,
     ⟨(some 16), none, .load false 1 (.tmp 15)⟩,
     ⟨(some 17), none, .bin .lss (.tmp 14) (.tmp 16)⟩])
  (.cond (.tmp 17) (.seq (.reg [⟨(some 6), none, .mov (.lit (.int .i64 0))⟩])
   (.ret))
    (.skip)))
 (.seq (.reg [⟨(some 6), none, .mov (.lit (.int .i64 1))⟩])
 (.ret))))
theorem k71 : FnC Tryd.prog 71 18 [] [] [.tmp 6] c71 3 := ⟨Tryd.f71, _, Tryd.func71, rfl, by decide, rfl, by decide, by kernel_rfl, by kernel_rfl⟩
/-- dipworks/dipworksref10.seen -/
def c82 : AC :=
 .seq (.reg [⟨(some 3), none, .box (.tmp 0)⟩,
    ⟨(some 6), none, .mov (.lit (.bool false))⟩])
 (.seq (.reg [⟨(some 9), none, .load true 5 (.tmp 3)⟩,
    ⟨(some 10), none, .mov (.tmp 1)⟩,
    ⟨(some 11), none, .call (.fn 58) [(.tmp 9), (.tmp 10)]⟩,
    ⟨(some 7), none, .mov (.tmp 11)⟩])
 (.seq (.seq (.reg [⟨(some 8), none, .mov (.lit (.int .i64 0))⟩])
  (.block 0 (.loop (.seq (.seq (.reg [⟨(some 12), none, .mov (.tmp 8)⟩,
       ⟨(some 13), none, .faddr 4 (.tmp 3)⟩,
       ⟨(some 14), none, .load false 1 (.tmp 13)⟩,
       ⟨(some 15), none, .len (.tmp 14)⟩,
       ⟨(some 16), none, .bin .lss (.tmp 12) (.tmp 15)⟩])
    (.cond (.tmp 16) (.skip)
      (.exit 0)))
   (.seq (.block 1 (.seq (.draw (.step ⟨(some 19), none, .mov (.tmp 2)⟩ (
       .step ⟨(some 20), none, .mov (.tmp 8)⟩ (
       .ev ⟨(some 21), none, .call (.fn 86) [(.tmp 19), (.tmp 20)]⟩ [] (
       .step ⟨(some 22), none, .mov (.tmp 21)⟩ (
        .step ⟨(some 23), (some (22, true)), .mov (.tmp 7)⟩ (
        .step ⟨(some 24), (some (22, true)), .faddr 4 (.tmp 3)⟩ (
        .step ⟨(some 25), (some (22, true)), .load false 1 (.tmp 24)⟩ (
        .step ⟨(some 26), (some (22, true)), .mov (.tmp 8)⟩ (
        .step ⟨(some 27), (some (22, true)), .iaddr 2 (.tmp 25) (.tmp 26)⟩ (
        .step ⟨(some 28), (some (22, true)), .faddr 0 (.tmp 27)⟩ (
        .step ⟨(some 29), (some (22, true)), .load false 1 (.tmp 28)⟩ (
        .step ⟨(some 30), (some (22, true)), .iaddr 1 (.tmp 23) (.tmp 29)⟩ (
        .step ⟨(some 31), (some (22, true)), .load false 1 (.tmp 30)⟩ (
        .step ⟨(some 32), (some (22, true)), .faddr 4 (.tmp 3)⟩ (
        .step ⟨(some 33), (some (22, true)), .load false 1 (.tmp 32)⟩ (
        .step ⟨(some 34), (some (22, true)), .mov (.tmp 8)⟩ (
        .step ⟨(some 35), (some (22, true)), .iaddr 2 (.tmp 33) (.tmp 34)⟩ (
        .step ⟨(some 36), (some (22, true)), .faddr 1 (.tmp 35)⟩ (
        .step ⟨(some 37), (some (22, true)), .load false 1 (.tmp 36)⟩ (
        .step ⟨(some 38), (some (22, true)), .eqb true (.tmp 31) (.tmp 37)⟩ (
        .step ⟨(some 39), none, .pick (.tmp 22) (.tmp 38) (.lit (.bool false))⟩ (
        .done)))))))))))))))))))
       (.stop)))))
    (.cond (.tmp 39) (.seq (.reg [⟨(some 6), none, .mov (.lit (.bool false))⟩])
     (.ret))
      (.skip))))
   (.reg [⟨(some 17), none, .mov (.tmp 8)⟩,
     ⟨(some 18), none, .bin .add (.tmp 17) (.lit (.int .i64 1))⟩,
     ⟨(some 8), none, .mov (.tmp 18)⟩]))))))
 (.seq (.reg [⟨(some 6), none, .mov (.lit (.bool true))⟩])
 (.ret))))
theorem k82 : FnC Tryd.prog 82 40 [] [] [.tmp 6] c82 3 := ⟨Tryd.f82, _, Tryd.func82, rfl, by decide, rfl, by decide, by kernel_rfl, by kernel_rfl⟩
/-- dipworks/dipworksref10.Has -/
def c86 : AC :=
 .seq (.reg [⟨(some 4), none, .mov (.lit (.bool false))⟩])
 (.seq (.reg [⟨(some 5), none, .mov (.tmp 0)⟩,
    ⟨(some 6), none, .mov (.tmp 1)⟩,
    ⟨(some 7), none, .call (.fn 49) [(.tmp 6)]⟩,
    ⟨(some 8), none, .bin .quo (.tmp 5) (.tmp 7)⟩,
    ⟨(some 9), none, .bin .rem (.tmp 8) (.lit (.int .i64 2))⟩,
    ⟨(some 10), none, .bin .eql (.tmp 9) (.lit (.int .i64 1))⟩,
    ⟨(some 4), none, .mov (.tmp 10)⟩])
 (.ret))
theorem k86 : FnC Tryd.prog 86 11 [] [] [.tmp 4] c86 2 := ⟨Tryd.f86, _, Tryd.func86, rfl, by decide, rfl, by decide, by kernel_rfl, by kernel_rfl⟩
end Go.Proofs.YtkbjodmpmmnhgaaDoor
