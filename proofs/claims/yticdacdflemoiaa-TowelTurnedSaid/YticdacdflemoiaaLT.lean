/- Proved here: laws that the statements need (TwC512, TwY3, TwXA). No conditions but those that each law states. -/
import Derived.Test.YticdacdflemoiaaLF
import Derived.Test.YticdacdflemoiaaLN
import Derived.Test.YticdacdflemoiaaLO
import Derived.Test.YticdacdflemoiaaFL

set_option linter.unusedSimpArgs false
set_option linter.unusedVariables false

/- Compiled code of functions, printed by program; each is checked to be the program's. No conditions. -/
namespace Go.Proofs.Yticdacdflemoiaa
open Go Go.Ab
def c12 : AC :=
 .seq (.reg [⟨(some 1), none, .box (.tmp 0)⟩,
    ⟨(some 2), none, .mov (.lit (.bool false))⟩])
 (.seq (.seq (.reg [⟨(some 57), none, .load true 3 (.tmp 1)⟩,
     ⟨(some 58), none, .call (.fn 37) [(.tmp 57)]⟩,
     ⟨(some 59), none, .un .not (.tmp 58)⟩])
  (.cond (.tmp 59) (.seq (.reg [⟨(some 60), none, .call (.fn 14) []⟩,
      ⟨(some 2), none, .mov (.tmp 60)⟩])
   (.ret))
    (.skip)))
 (.seq (.draw (.step ⟨(some 61), none, .faddr 0 (.tmp 1)⟩ (
    .step ⟨(some 62), none, .load false 1 (.tmp 61)⟩ (
    .step ⟨(some 63), none, .len (.tmp 62)⟩ (
    .step ⟨(some 64), none, .faddr 1 (.tmp 1)⟩ (
    .step ⟨(some 65), none, .load false 1 (.tmp 64)⟩ (
    .step ⟨(some 66), none, .len (.tmp 65)⟩ (
    .step ⟨(some 67), none, .faddr 2 (.tmp 1)⟩ (
    .step ⟨(some 68), none, .load false 1 (.tmp 67)⟩ (
    .step ⟨(some 69), none, .len (.tmp 68)⟩ (
    .step ⟨(some 3), none, .mov (.tmp 63)⟩ (
    .step ⟨(some 4), none, .mov (.tmp 66)⟩ (
    .step ⟨(some 5), none, .mov (.tmp 69)⟩ (
    .done))))))))))))))
 (.seq (.reg [⟨(some 70), none, .faddr 2 (.tmp 1)⟩,
    ⟨(some 71), none, .load false 1 (.tmp 70)⟩,
    ⟨(some 72), none, .faddr 1 (.tmp 1)⟩,
    ⟨(some 73), none, .load false 1 (.tmp 72)⟩,
    ⟨(some 74), none, .build [(.slice none 0 0), (.slice none 0 0), (.slice none 0 0)] [(1, 1, (.tmp 71)), (2, 1, (.tmp 73))]⟩,
    ⟨(some 75), none, .build [(.slice none 0 0), (.slice none 0 0), (.slice none 0 0)] []⟩,
    ⟨(some 6), none, .alloc [(.slice none 0 0), (.slice none 0 0), (.slice none 0 0)]⟩,
    ⟨(some 7), none, .alloc [(.slice none 0 0), (.slice none 0 0), (.slice none 0 0)]⟩,
    ⟨none, none, .store 3 (.tmp 6) (.tmp 74)⟩,
    ⟨none, none, .store 3 (.tmp 7) (.tmp 75)⟩])
 (.seq (.seq (.reg [⟨(some 76), none, .faddr 0 (.tmp 1)⟩,
     ⟨(some 77), none, .load false 1 (.tmp 76)⟩,
     ⟨(some 78), none, .len (.tmp 77)⟩,
     ⟨(some 79), none, .mov (.lit (.int .i64 0))⟩])
  (.block 0 (.loop (.seq (.reg [⟨(some 80), none, .bin .lss (.tmp 79) (.tmp 78)⟩])
   (.seq (.cond (.tmp 80) (.skip)
      (.exit 0))
   (.seq (.block 1 (.seq (.reg [⟨(some 81), none, .mov (.tmp 79)⟩,
       ⟨(some 82), none, .iaddr 6 (.tmp 77) (.tmp 79)⟩,
       ⟨(some 83), none, .load true 6 (.tmp 82)⟩,
       ⟨(some 9), none, .alloc [(.int .i64 0), (.int .i64 0), (.int .i64 0), (.int .i64 0), (.int .i64 0), (.int .i64 0)]⟩,
       ⟨(some 8), none, .mov (.tmp 81)⟩,
       ⟨none, none, .store 6 (.tmp 9) (.tmp 83)⟩])
    (.seq (.draw (.step ⟨(some 84), none, .faddr 0 (.tmp 6)⟩ (
       .step ⟨(some 85), none, .load false 1 (.tmp 84)⟩ (
       .step ⟨(some 86), none, .faddr 1 (.tmp 9)⟩ (
       .step ⟨(some 87), none, .load false 1 (.tmp 86)⟩ (
       .step ⟨(some 88), none, .faddr 0 (.tmp 9)⟩ (
       .step ⟨(some 89), none, .load false 1 (.tmp 88)⟩ (
       .step ⟨(some 90), none, .faddr 2 (.tmp 9)⟩ (
       .step ⟨(some 91), none, .load true 2 (.tmp 90)⟩ (
       .step ⟨(some 92), none, .faddr 4 (.tmp 9)⟩ (
       .step ⟨(some 93), none, .load true 2 (.tmp 92)⟩ (
       .ev ⟨(some 94), none, .call (.fn 44) [(.tmp 87), (.tmp 89), (.tmp 91), (.tmp 93)]⟩ [⟨(some 92), none, .faddr 4 (.tmp 9)⟩, ⟨(some 90), none, .faddr 2 (.tmp 9)⟩, ⟨(some 88), none, .faddr 0 (.tmp 9)⟩, ⟨(some 86), none, .faddr 1 (.tmp 9)⟩, ⟨(some 85), none, .load false 1 (.tmp 84)⟩, ⟨(some 84), none, .faddr 0 (.tmp 6)⟩] (
       .ev ⟨(some 95), none, .bslice 6 (.agg #[(.int .i64 0), (.int .i64 0), (.int .i64 0), (.int .i64 0), (.int .i64 0), (.int .i64 0)]) 1 [(0, (.tmp 94))]⟩ [⟨(some 93), none, .load true 2 (.tmp 92)⟩, ⟨(some 92), none, .faddr 4 (.tmp 9)⟩, ⟨(some 91), none, .load true 2 (.tmp 90)⟩, ⟨(some 90), none, .faddr 2 (.tmp 9)⟩, ⟨(some 89), none, .load false 1 (.tmp 88)⟩, ⟨(some 88), none, .faddr 0 (.tmp 9)⟩, ⟨(some 87), none, .load false 1 (.tmp 86)⟩, ⟨(some 86), none, .faddr 1 (.tmp 9)⟩, ⟨(some 85), none, .load false 1 (.tmp 84)⟩, ⟨(some 84), none, .faddr 0 (.tmp 6)⟩] (
        .ev ⟨(some 96), none, .app 6 48 (.tmp 85) (.tmp 95)⟩ [⟨(some 93), none, .load true 2 (.tmp 92)⟩, ⟨(some 92), none, .faddr 4 (.tmp 9)⟩, ⟨(some 91), none, .load true 2 (.tmp 90)⟩, ⟨(some 90), none, .faddr 2 (.tmp 9)⟩, ⟨(some 89), none, .load false 1 (.tmp 88)⟩, ⟨(some 88), none, .faddr 0 (.tmp 9)⟩, ⟨(some 87), none, .load false 1 (.tmp 86)⟩, ⟨(some 86), none, .faddr 1 (.tmp 9)⟩, ⟨(some 84), none, .faddr 0 (.tmp 6)⟩] (
         .step ⟨(some 97), none, .faddr 0 (.tmp 6)⟩ (
          .ev ⟨none, none, .store 1 (.tmp 97) (.tmp 96)⟩ [] (
          .done)
          (.stop)))
         (.stop))
        (.stop))
       (.stop)))))))))))))
    (.seq (.reg [⟨(some 98), none, .faddr 0 (.tmp 1)⟩,
       ⟨(some 99), none, .load false 1 (.tmp 98)⟩,
       ⟨(some 100), none, .mov (.tmp 3)⟩,
       ⟨(some 101), none, .bin .sub (.tmp 100) (.lit (.int .i64 1))⟩,
       ⟨(some 102), none, .mov (.tmp 8)⟩,
       ⟨(some 103), none, .bin .sub (.tmp 101) (.tmp 102)⟩,
       ⟨(some 104), none, .iaddr 6 (.tmp 99) (.tmp 103)⟩,
       ⟨(some 105), none, .load true 6 (.tmp 104)⟩,
       ⟨(some 10), none, .alloc [(.int .i64 0), (.int .i64 0), (.int .i64 0), (.int .i64 0), (.int .i64 0), (.int .i64 0)]⟩,
       ⟨none, none, .store 6 (.tmp 10) (.tmp 105)⟩])
    (.draw (.step ⟨(some 106), none, .faddr 0 (.tmp 7)⟩ (
      .step ⟨(some 107), none, .load false 1 (.tmp 106)⟩ (
      .step ⟨(some 108), none, .mov (.tmp 4)⟩ (
      .step ⟨(some 109), none, .bin .sub (.tmp 108) (.lit (.int .i64 1))⟩ (
      .step ⟨(some 110), none, .faddr 0 (.tmp 10)⟩ (
      .step ⟨(some 111), none, .load false 1 (.tmp 110)⟩ (
      .step ⟨(some 112), none, .bin .sub (.tmp 109) (.tmp 111)⟩ (
      .step ⟨(some 113), none, .mov (.tmp 5)⟩ (
      .step ⟨(some 114), none, .bin .sub (.tmp 113) (.lit (.int .i64 1))⟩ (
      .step ⟨(some 115), none, .faddr 1 (.tmp 10)⟩ (
      .step ⟨(some 116), none, .load false 1 (.tmp 115)⟩ (
      .step ⟨(some 117), none, .bin .sub (.tmp 114) (.tmp 116)⟩ (
      .step ⟨(some 118), none, .faddr 2 (.tmp 10)⟩ (
      .step ⟨(some 119), none, .load true 2 (.tmp 118)⟩ (
      .step ⟨(some 120), none, .faddr 4 (.tmp 10)⟩ (
      .step ⟨(some 121), none, .load true 2 (.tmp 120)⟩ (
      .ev ⟨(some 122), none, .call (.fn 44) [(.tmp 112), (.tmp 117), (.tmp 119), (.tmp 121)]⟩ [⟨(some 120), none, .faddr 4 (.tmp 10)⟩, ⟨(some 118), none, .faddr 2 (.tmp 10)⟩, ⟨(some 116), none, .load false 1 (.tmp 115)⟩, ⟨(some 115), none, .faddr 1 (.tmp 10)⟩, ⟨(some 111), none, .load false 1 (.tmp 110)⟩, ⟨(some 110), none, .faddr 0 (.tmp 10)⟩, ⟨(some 107), none, .load false 1 (.tmp 106)⟩, ⟨(some 106), none, .faddr 0 (.tmp 7)⟩] (
      .ev ⟨(some 123), none, .bslice 6 (.agg #[(.int .i64 0), (.int .i64 0), (.int .i64 0), (.int .i64 0), (.int .i64 0), (.int .i64 0)]) 1 [(0, (.tmp 122))]⟩ [⟨(some 121), none, .load true 2 (.tmp 120)⟩, ⟨(some 120), none, .faddr 4 (.tmp 10)⟩, ⟨(some 119), none, .load true 2 (.tmp 118)⟩, ⟨(some 118), none, .faddr 2 (.tmp 10)⟩, ⟨(some 116), none, .load false 1 (.tmp 115)⟩, ⟨(some 115), none, .faddr 1 (.tmp 10)⟩, ⟨(some 111), none, .load false 1 (.tmp 110)⟩, ⟨(some 110), none, .faddr 0 (.tmp 10)⟩, ⟨(some 107), none, .load false 1 (.tmp 106)⟩, ⟨(some 106), none, .faddr 0 (.tmp 7)⟩] (
       .ev ⟨(some 124), none, .app 6 48 (.tmp 107) (.tmp 123)⟩ [⟨(some 121), none, .load true 2 (.tmp 120)⟩, ⟨(some 120), none, .faddr 4 (.tmp 10)⟩, ⟨(some 119), none, .load true 2 (.tmp 118)⟩, ⟨(some 118), none, .faddr 2 (.tmp 10)⟩, ⟨(some 116), none, .load false 1 (.tmp 115)⟩, ⟨(some 115), none, .faddr 1 (.tmp 10)⟩, ⟨(some 111), none, .load false 1 (.tmp 110)⟩, ⟨(some 110), none, .faddr 0 (.tmp 10)⟩, ⟨(some 106), none, .faddr 0 (.tmp 7)⟩] (
        .step ⟨(some 125), none, .faddr 0 (.tmp 7)⟩ (
         .ev ⟨none, none, .store 1 (.tmp 125) (.tmp 124)⟩ [] (
         .done)
         (.stop)))
        (.stop))
       (.stop))
      (.stop)))))))))))))))))))))))
   (.reg [⟨(some 126), none, .bin .add (.tmp 79) (.lit (.int .i64 1))⟩,
     ⟨(some 79), none, .mov (.tmp 126)⟩])))))))
 (.seq (.seq (.reg [⟨(some 127), none, .faddr 1 (.tmp 1)⟩,
     ⟨(some 128), none, .load false 1 (.tmp 127)⟩,
     ⟨(some 129), none, .len (.tmp 128)⟩,
     ⟨(some 130), none, .mov (.lit (.int .i64 0))⟩])
  (.block 2 (.loop (.seq (.reg [⟨(some 131), none, .bin .lss (.tmp 130) (.tmp 129)⟩])
   (.seq (.cond (.tmp 131) (.skip)
      (.exit 2))
   (.seq (.block 3 (.seq (.reg [⟨(some 132), none, .mov (.tmp 130)⟩,
       ⟨(some 11), none, .mov (.tmp 132)⟩])
    (.draw (.step ⟨(some 133), none, .faddr 1 (.tmp 7)⟩ (
      .step ⟨(some 134), none, .load false 1 (.tmp 133)⟩ (
      .step ⟨(some 135), none, .faddr 1 (.tmp 1)⟩ (
      .step ⟨(some 136), none, .load false 1 (.tmp 135)⟩ (
      .step ⟨(some 137), none, .mov (.tmp 4)⟩ (
      .step ⟨(some 138), none, .bin .sub (.tmp 137) (.lit (.int .i64 1))⟩ (
      .step ⟨(some 139), none, .mov (.tmp 11)⟩ (
      .step ⟨(some 140), none, .bin .sub (.tmp 138) (.tmp 139)⟩ (
      .step ⟨(some 141), none, .iaddr 2 (.tmp 136) (.tmp 140)⟩ (
      .step ⟨(some 142), none, .load true 2 (.tmp 141)⟩ (
      .ev ⟨(some 143), none, .bslice 2 (.agg #[(.int .i64 0), (.int .i64 0)]) 1 [(0, (.tmp 142))]⟩ [⟨(some 141), none, .iaddr 2 (.tmp 136) (.tmp 140)⟩, ⟨(some 136), none, .load false 1 (.tmp 135)⟩, ⟨(some 135), none, .faddr 1 (.tmp 1)⟩, ⟨(some 134), none, .load false 1 (.tmp 133)⟩, ⟨(some 133), none, .faddr 1 (.tmp 7)⟩] (
      .ev ⟨(some 144), none, .app 2 16 (.tmp 134) (.tmp 143)⟩ [⟨(some 142), none, .load true 2 (.tmp 141)⟩, ⟨(some 141), none, .iaddr 2 (.tmp 136) (.tmp 140)⟩, ⟨(some 136), none, .load false 1 (.tmp 135)⟩, ⟨(some 135), none, .faddr 1 (.tmp 1)⟩, ⟨(some 133), none, .faddr 1 (.tmp 7)⟩] (
       .step ⟨(some 145), none, .faddr 1 (.tmp 7)⟩ (
        .ev ⟨none, none, .store 1 (.tmp 145) (.tmp 144)⟩ [] (
        .done)
        (.stop)))
       (.stop))
      (.stop)))))))))))))))
   (.reg [⟨(some 146), none, .bin .add (.tmp 130) (.lit (.int .i64 1))⟩,
     ⟨(some 130), none, .mov (.tmp 146)⟩])))))))
 (.seq (.seq (.reg [⟨(some 147), none, .faddr 2 (.tmp 1)⟩,
     ⟨(some 148), none, .load false 1 (.tmp 147)⟩,
     ⟨(some 149), none, .len (.tmp 148)⟩,
     ⟨(some 150), none, .mov (.lit (.int .i64 0))⟩])
  (.block 4 (.loop (.seq (.reg [⟨(some 151), none, .bin .lss (.tmp 150) (.tmp 149)⟩])
   (.seq (.cond (.tmp 151) (.skip)
      (.exit 4))
   (.seq (.block 5 (.seq (.reg [⟨(some 152), none, .mov (.tmp 150)⟩,
       ⟨(some 12), none, .mov (.tmp 152)⟩])
    (.draw (.step ⟨(some 153), none, .faddr 2 (.tmp 7)⟩ (
      .step ⟨(some 154), none, .load false 1 (.tmp 153)⟩ (
      .step ⟨(some 155), none, .faddr 2 (.tmp 1)⟩ (
      .step ⟨(some 156), none, .load false 1 (.tmp 155)⟩ (
      .step ⟨(some 157), none, .mov (.tmp 5)⟩ (
      .step ⟨(some 158), none, .bin .sub (.tmp 157) (.lit (.int .i64 1))⟩ (
      .step ⟨(some 159), none, .mov (.tmp 12)⟩ (
      .step ⟨(some 160), none, .bin .sub (.tmp 158) (.tmp 159)⟩ (
      .step ⟨(some 161), none, .iaddr 2 (.tmp 156) (.tmp 160)⟩ (
      .step ⟨(some 162), none, .load true 2 (.tmp 161)⟩ (
      .ev ⟨(some 163), none, .bslice 2 (.agg #[(.int .i64 0), (.int .i64 0)]) 1 [(0, (.tmp 162))]⟩ [⟨(some 161), none, .iaddr 2 (.tmp 156) (.tmp 160)⟩, ⟨(some 156), none, .load false 1 (.tmp 155)⟩, ⟨(some 155), none, .faddr 2 (.tmp 1)⟩, ⟨(some 154), none, .load false 1 (.tmp 153)⟩, ⟨(some 153), none, .faddr 2 (.tmp 7)⟩] (
      .ev ⟨(some 164), none, .app 2 16 (.tmp 154) (.tmp 163)⟩ [⟨(some 162), none, .load true 2 (.tmp 161)⟩, ⟨(some 161), none, .iaddr 2 (.tmp 156) (.tmp 160)⟩, ⟨(some 156), none, .load false 1 (.tmp 155)⟩, ⟨(some 155), none, .faddr 2 (.tmp 1)⟩, ⟨(some 153), none, .faddr 2 (.tmp 7)⟩] (
       .step ⟨(some 165), none, .faddr 2 (.tmp 7)⟩ (
        .ev ⟨none, none, .store 1 (.tmp 165) (.tmp 164)⟩ [] (
        .done)
        (.stop)))
       (.stop))
      (.stop)))))))))))))))
   (.reg [⟨(some 166), none, .bin .add (.tmp 150) (.lit (.int .i64 1))⟩,
     ⟨(some 150), none, .mov (.tmp 166)⟩])))))))
 (.seq (.draw (.step ⟨(some 168), none, .faddr 0 (.tmp 1)⟩ (
    .step ⟨(some 169), none, .load false 1 (.tmp 168)⟩ (
    .step ⟨(some 172), none, .faddr 1 (.tmp 1)⟩ (
    .step ⟨(some 173), none, .load false 1 (.tmp 172)⟩ (
    .ev ⟨(some 167), none, .bslice 6 (.agg #[(.int .i64 0), (.int .i64 0), (.int .i64 0), (.int .i64 0), (.int .i64 0), (.int .i64 0)]) 0 []⟩ [⟨(some 173), none, .load false 1 (.tmp 172)⟩, ⟨(some 172), none, .faddr 1 (.tmp 1)⟩, ⟨(some 169), none, .load false 1 (.tmp 168)⟩, ⟨(some 168), none, .faddr 0 (.tmp 1)⟩] (
    .ev ⟨(some 170), none, .app 6 48 (.tmp 167) (.tmp 169)⟩ [⟨(some 173), none, .load false 1 (.tmp 172)⟩, ⟨(some 172), none, .faddr 1 (.tmp 1)⟩, ⟨(some 168), none, .faddr 0 (.tmp 1)⟩] (
     .ev ⟨(some 171), none, .bslice 2 (.agg #[(.int .i64 0), (.int .i64 0)]) 0 []⟩ [⟨(some 173), none, .load false 1 (.tmp 172)⟩, ⟨(some 172), none, .faddr 1 (.tmp 1)⟩, ⟨(some 169), none, .load false 1 (.tmp 168)⟩, ⟨(some 168), none, .faddr 0 (.tmp 1)⟩] (
      .ev ⟨(some 174), none, .app 2 16 (.tmp 171) (.tmp 173)⟩ [⟨(some 172), none, .faddr 1 (.tmp 1)⟩, ⟨(some 169), none, .load false 1 (.tmp 168)⟩, ⟨(some 168), none, .faddr 0 (.tmp 1)⟩] (
       .step ⟨(some 13), none, .mov (.tmp 170)⟩ (
        .step ⟨(some 14), none, .mov (.tmp 174)⟩ (
        .done)))
       (.stop))
      (.stop))
     (.ev ⟨(some 171), none, .bslice 2 (.agg #[(.int .i64 0), (.int .i64 0)]) 0 []⟩ [⟨(some 173), none, .load false 1 (.tmp 172)⟩, ⟨(some 172), none, .faddr 1 (.tmp 1)⟩, ⟨(some 169), none, .load false 1 (.tmp 168)⟩, ⟨(some 168), none, .faddr 0 (.tmp 1)⟩] (
     .ev ⟨(some 170), none, .app 6 48 (.tmp 167) (.tmp 169)⟩ [⟨(some 173), none, .load false 1 (.tmp 172)⟩, ⟨(some 172), none, .faddr 1 (.tmp 1)⟩, ⟨(some 168), none, .faddr 0 (.tmp 1)⟩] (
      .ev ⟨(some 174), none, .app 2 16 (.tmp 171) (.tmp 173)⟩ [⟨(some 172), none, .faddr 1 (.tmp 1)⟩, ⟨(some 169), none, .load false 1 (.tmp 168)⟩, ⟨(some 168), none, .faddr 0 (.tmp 1)⟩] (
       .step ⟨(some 13), none, .mov (.tmp 170)⟩ (
        .step ⟨(some 14), none, .mov (.tmp 174)⟩ (
        .done)))
       (.stop))
      (.stop))
     (.stop)))
    (.ev ⟨(some 171), none, .bslice 2 (.agg #[(.int .i64 0), (.int .i64 0)]) 0 []⟩ [⟨(some 173), none, .load false 1 (.tmp 172)⟩, ⟨(some 172), none, .faddr 1 (.tmp 1)⟩, ⟨(some 169), none, .load false 1 (.tmp 168)⟩, ⟨(some 168), none, .faddr 0 (.tmp 1)⟩] (
    .ev ⟨(some 167), none, .bslice 6 (.agg #[(.int .i64 0), (.int .i64 0), (.int .i64 0), (.int .i64 0), (.int .i64 0), (.int .i64 0)]) 0 []⟩ [⟨(some 173), none, .load false 1 (.tmp 172)⟩, ⟨(some 172), none, .faddr 1 (.tmp 1)⟩, ⟨(some 169), none, .load false 1 (.tmp 168)⟩, ⟨(some 168), none, .faddr 0 (.tmp 1)⟩] (
     .ev ⟨(some 170), none, .app 6 48 (.tmp 167) (.tmp 169)⟩ [⟨(some 173), none, .load false 1 (.tmp 172)⟩, ⟨(some 172), none, .faddr 1 (.tmp 1)⟩, ⟨(some 168), none, .faddr 0 (.tmp 1)⟩] (
      .ev ⟨(some 174), none, .app 2 16 (.tmp 171) (.tmp 173)⟩ [⟨(some 172), none, .faddr 1 (.tmp 1)⟩, ⟨(some 169), none, .load false 1 (.tmp 168)⟩, ⟨(some 168), none, .faddr 0 (.tmp 1)⟩] (
       .step ⟨(some 13), none, .mov (.tmp 170)⟩ (
        .step ⟨(some 14), none, .mov (.tmp 174)⟩ (
        .done)))
       (.stop))
      (.stop))
     (.stop))
    (.stop))))))))
 (.seq (.reg [⟨(some 176), none, .load true 3 (.tmp 1)⟩,
    ⟨(some 177), none, .call (.fn 23) [(.tmp 176)]⟩,
    ⟨(some 175), none, .mov (.tmp 177)⟩,
    ⟨(some 178), none, .ext (.tmp 175) 0⟩,
    ⟨(some 179), none, .ext (.tmp 175) 1⟩,
    ⟨(some 15), none, .mov (.tmp 178)⟩,
    ⟨(some 16), none, .mov (.tmp 179)⟩])
 (.seq (.reg [⟨(some 181), none, .load true 3 (.tmp 6)⟩,
    ⟨(some 182), none, .call (.fn 23) [(.tmp 181)]⟩,
    ⟨(some 180), none, .mov (.tmp 182)⟩,
    ⟨(some 183), none, .ext (.tmp 180) 0⟩,
    ⟨(some 184), none, .ext (.tmp 180) 1⟩,
    ⟨(some 17), none, .mov (.tmp 183)⟩,
    ⟨(some 18), none, .mov (.tmp 184)⟩])
 (.seq (.reg [⟨(some 186), none, .load true 3 (.tmp 7)⟩,
    ⟨(some 187), none, .call (.fn 23) [(.tmp 186)]⟩,
    ⟨(some 185), none, .mov (.tmp 187)⟩,
    ⟨(some 188), none, .ext (.tmp 185) 0⟩,
    ⟨(some 189), none, .ext (.tmp 185) 1⟩,
    ⟨(some 19), none, .mov (.tmp 188)⟩,
    ⟨(some 20), none, .mov (.tmp 189)⟩])
 (.seq (.reg [⟨(some 191), none, .load true 3 (.tmp 1)⟩,
    ⟨(some 192), none, .call (.fn 25) [(.tmp 191)]⟩,
    ⟨(some 190), none, .mov (.tmp 192)⟩,
    ⟨(some 193), none, .ext (.tmp 190) 0⟩,
    ⟨(some 194), none, .ext (.tmp 190) 1⟩,
    ⟨(some 195), none, .ext (.tmp 190) 2⟩,
    ⟨(some 21), none, .mov (.tmp 193)⟩,
    ⟨(some 22), none, .mov (.tmp 194)⟩,
    ⟨(some 23), none, .mov (.tmp 195)⟩])
 (.seq (.reg [⟨(some 197), none, .load true 3 (.tmp 6)⟩,
    ⟨(some 198), none, .call (.fn 25) [(.tmp 197)]⟩,
    ⟨(some 196), none, .mov (.tmp 198)⟩,
    ⟨(some 199), none, .ext (.tmp 196) 0⟩,
    ⟨(some 200), none, .ext (.tmp 196) 1⟩,
    ⟨(some 201), none, .ext (.tmp 196) 2⟩,
    ⟨(some 24), none, .mov (.tmp 199)⟩,
    ⟨(some 25), none, .mov (.tmp 200)⟩,
    ⟨(some 26), none, .mov (.tmp 201)⟩])
 (.seq (.reg [⟨(some 203), none, .load true 3 (.tmp 7)⟩,
    ⟨(some 204), none, .call (.fn 25) [(.tmp 203)]⟩,
    ⟨(some 202), none, .mov (.tmp 204)⟩,
    ⟨(some 205), none, .ext (.tmp 202) 0⟩,
    ⟨(some 206), none, .ext (.tmp 202) 1⟩,
    ⟨(some 207), none, .ext (.tmp 202) 2⟩,
    ⟨(some 27), none, .mov (.tmp 205)⟩,
    ⟨(some 28), none, .mov (.tmp 206)⟩,
    ⟨(some 29), none, .mov (.tmp 207)⟩])
 (.seq (.reg [⟨(some 209), none, .load true 3 (.tmp 1)⟩,
    ⟨(some 210), none, .call (.fn 27) [(.tmp 209)]⟩,
    ⟨(some 208), none, .mov (.tmp 210)⟩,
    ⟨(some 211), none, .ext (.tmp 208) 0⟩,
    ⟨(some 212), none, .ext (.tmp 208) 1⟩,
    ⟨(some 213), none, .ext (.tmp 208) 2⟩,
    ⟨(some 30), none, .mov (.tmp 211)⟩,
    ⟨(some 31), none, .mov (.tmp 212)⟩,
    ⟨(some 32), none, .mov (.tmp 213)⟩])
 (.seq (.reg [⟨(some 215), none, .load true 3 (.tmp 6)⟩,
    ⟨(some 216), none, .call (.fn 27) [(.tmp 215)]⟩,
    ⟨(some 214), none, .mov (.tmp 216)⟩,
    ⟨(some 217), none, .ext (.tmp 214) 0⟩,
    ⟨(some 218), none, .ext (.tmp 214) 1⟩,
    ⟨(some 219), none, .ext (.tmp 214) 2⟩,
    ⟨(some 33), none, .mov (.tmp 217)⟩,
    ⟨(some 34), none, .mov (.tmp 218)⟩,
    ⟨(some 35), none, .mov (.tmp 219)⟩])
 (.seq (.reg [⟨(some 221), none, .load true 3 (.tmp 7)⟩,
    ⟨(some 222), none, .call (.fn 27) [(.tmp 221)]⟩,
    ⟨(some 220), none, .mov (.tmp 222)⟩,
    ⟨(some 223), none, .ext (.tmp 220) 0⟩,
    ⟨(some 224), none, .ext (.tmp 220) 1⟩,
    ⟨(some 225), none, .ext (.tmp 220) 2⟩,
    ⟨(some 36), none, .mov (.tmp 223)⟩,
    ⟨(some 37), none, .mov (.tmp 224)⟩,
    ⟨(some 38), none, .mov (.tmp 225)⟩])
 (.seq (.reg [⟨(some 227), none, .load true 3 (.tmp 1)⟩,
    ⟨(some 228), none, .call (.fn 29) [(.tmp 227)]⟩,
    ⟨(some 226), none, .mov (.tmp 228)⟩,
    ⟨(some 229), none, .ext (.tmp 226) 0⟩,
    ⟨(some 230), none, .ext (.tmp 226) 1⟩,
    ⟨(some 231), none, .ext (.tmp 226) 2⟩,
    ⟨(some 39), none, .mov (.tmp 229)⟩,
    ⟨(some 40), none, .mov (.tmp 230)⟩,
    ⟨(some 41), none, .mov (.tmp 231)⟩])
 (.seq (.reg [⟨(some 233), none, .load true 3 (.tmp 6)⟩,
    ⟨(some 234), none, .call (.fn 29) [(.tmp 233)]⟩,
    ⟨(some 232), none, .mov (.tmp 234)⟩,
    ⟨(some 235), none, .ext (.tmp 232) 0⟩,
    ⟨(some 236), none, .ext (.tmp 232) 1⟩,
    ⟨(some 237), none, .ext (.tmp 232) 2⟩,
    ⟨(some 42), none, .mov (.tmp 235)⟩,
    ⟨(some 43), none, .mov (.tmp 236)⟩,
    ⟨(some 44), none, .mov (.tmp 237)⟩])
 (.seq (.reg [⟨(some 239), none, .load true 3 (.tmp 7)⟩,
    ⟨(some 240), none, .call (.fn 29) [(.tmp 239)]⟩,
    ⟨(some 238), none, .mov (.tmp 240)⟩,
    ⟨(some 241), none, .ext (.tmp 238) 0⟩,
    ⟨(some 242), none, .ext (.tmp 238) 1⟩,
    ⟨(some 243), none, .ext (.tmp 238) 2⟩,
    ⟨(some 45), none, .mov (.tmp 241)⟩,
    ⟨(some 46), none, .mov (.tmp 242)⟩,
    ⟨(some 47), none, .mov (.tmp 243)⟩])
 (.seq (.reg [⟨(some 48), none, .mov (.fn 32)⟩])
 (.seq (.seq (.reg [⟨(some 244), none, .mov (.tmp 16)⟩,
     ⟨(some 245), none, .bin .neq (.tmp 244) (.lit (.int .i64 0))⟩,
     ⟨(some 246), none, .mov (.tmp 245)⟩,
     ⟨(some 247), (some (246, false)), .mov (.tmp 18)⟩,
     ⟨(some 248), (some (246, false)), .bin .neq (.tmp 247) (.lit (.int .i64 0))⟩,
     ⟨(some 249), none, .pick (.tmp 246) (.lit (.bool true)) (.tmp 248)⟩,
     ⟨(some 250), none, .mov (.tmp 249)⟩,
     ⟨(some 251), (some (250, false)), .mov (.tmp 20)⟩,
     ⟨(some 252), (some (250, false)), .bin .neq (.tmp 251) (.lit (.int .i64 0))⟩,
     ⟨(some 253), none, .pick (.tmp 250) (.lit (.bool true)) (.tmp 252)⟩,
     ⟨(some 254), none, .mov (.tmp 253)⟩,
     ⟨(some 255), (some (254, false)), .mov (.tmp 15)⟩,
     ⟨(some 256), (some (254, false)), .mov (.tmp 17)⟩,
     ⟨(some 257), (some (254, false)), .bin .neq (.tmp 255) (.tmp 256)⟩,
     ⟨(some 258), none, .pick (.tmp 254) (.lit (.bool true)) (.tmp 257)⟩,
     ⟨(some 259), none, .mov (.tmp 258)⟩,
     ⟨(some 260), (some (259, false)), .mov (.tmp 15)⟩,
     ⟨(some 261), (some (259, false)), .mov (.tmp 19)⟩,
     ⟨(some 262), (some (259, false)), .bin .neq (.tmp 260) (.tmp 261)⟩,
     ⟨(some 263), none, .pick (.tmp 259) (.lit (.bool true)) (.tmp 262)⟩,
     ⟨(some 264), none, .mov (.tmp 263)⟩,
     ⟨(some 265), (some (264, false)), .mov (.tmp 21)⟩,
     ⟨(some 266), (some (264, false)), .mov (.tmp 24)⟩,
     ⟨(some 267), (some (264, false)), .bin .neq (.tmp 265) (.tmp 266)⟩,
     ⟨(some 268), none, .pick (.tmp 264) (.lit (.bool true)) (.tmp 267)⟩,
     ⟨(some 269), none, .mov (.tmp 268)⟩,
     ⟨(some 270), (some (269, false)), .mov (.tmp 22)⟩,
     ⟨(some 271), (some (269, false)), .mov (.tmp 25)⟩,
     ⟨(some 272), (some (269, false)), .bin .neq (.tmp 270) (.tmp 271)⟩,
     ⟨(some 273), none, .pick (.tmp 269) (.lit (.bool true)) (.tmp 272)⟩,
     ⟨(some 274), none, .mov (.tmp 273)⟩,
     ⟨(some 275), (some (274, false)), .mov (.tmp 23)⟩,
     ⟨(some 276), (some (274, false)), .mov (.tmp 26)⟩,
     ⟨(some 277), (some (274, false)), .bin .neq (.tmp 275) (.tmp 276)⟩,
     ⟨(some 278), none, .pick (.tmp 274) (.lit (.bool true)) (.tmp 277)⟩,
     ⟨(some 279), none, .mov (.tmp 278)⟩,
     ⟨(some 280), (some (279, false)), .mov (.tmp 21)⟩,
     ⟨(some 281), (some (279, false)), .mov (.tmp 27)⟩,
     ⟨(some 282), (some (279, false)), .bin .neq (.tmp 280) (.tmp 281)⟩,
     ⟨(some 283), none, .pick (.tmp 279) (.lit (.bool true)) (.tmp 282)⟩,
     ⟨(some 284), none, .mov (.tmp 283)⟩,
     ⟨(some 285), (some (284, false)), .mov (.tmp 23)⟩,
     ⟨(some 286), (some (284, false)), .mov (.tmp 29)⟩,
     ⟨(some 287), (some (284, false)), .bin .neq (.tmp 285) (.tmp 286)⟩,
     ⟨(some 288), none, .pick (.tmp 284) (.lit (.bool true)) (.tmp 287)⟩,
     ⟨(some 289), none, .mov (.tmp 288)⟩,
     ⟨(some 290), (some (289, false)), .mov (.tmp 30)⟩,
     ⟨(some 291), (some (289, false)), .mov (.tmp 33)⟩,
     ⟨(some 292), (some (289, false)), .bin .neq (.tmp 290) (.tmp 291)⟩,
     ⟨(some 293), none, .pick (.tmp 289) (.lit (.bool true)) (.tmp 292)⟩,
     ⟨(some 294), none, .mov (.tmp 293)⟩,
     ⟨(some 295), (some (294, false)), .mov (.tmp 31)⟩,
     ⟨(some 296), (some (294, false)), .mov (.tmp 34)⟩,
     ⟨(some 297), (some (294, false)), .bin .neq (.tmp 295) (.tmp 296)⟩,
     ⟨(some 298), none, .pick (.tmp 294) (.lit (.bool true)) (.tmp 297)⟩,
     ⟨(some 299), none, .mov (.tmp 298)⟩,
     ⟨(some 300), (some (299, false)), .mov (.tmp 32)⟩,
     ⟨(some 301), (some (299, false)), .mov (.tmp 35)⟩,
     ⟨(some 302), (some (299, false)), .bin .neq (.tmp 300) (.tmp 301)⟩,
     ⟨(some 303), none, .pick (.tmp 299) (.lit (.bool true)) (.tmp 302)⟩,
     ⟨(some 304), none, .mov (.tmp 303)⟩,
     ⟨(some 305), (some (304, false)), .mov (.tmp 31)⟩,
     ⟨(some 306), (some (304, false)), .mov (.tmp 37)⟩,
     ⟨(some 307), (some (304, false)), .bin .neq (.tmp 305) (.tmp 306)⟩,
     ⟨(some 308), none, .pick (.tmp 304) (.lit (.bool true)) (.tmp 307)⟩,
     ⟨(some 309), none, .mov (.tmp 308)⟩,
     ⟨(some 310), (some (309, false)), .mov (.tmp 32)⟩,
     ⟨(some 311), (some (309, false)), .mov (.tmp 38)⟩,
     ⟨(some 312), (some (309, false)), .bin .neq (.tmp 310) (.tmp 311)⟩,
     ⟨(some 313), none, .pick (.tmp 309) (.lit (.bool true)) (.tmp 312)⟩,
     ⟨(some 314), none, .mov (.tmp 313)⟩,
     ⟨(some 315), (some (314, false)), .mov (.tmp 41)⟩,
     ⟨(some 316), (some (314, false)), .mov (.tmp 44)⟩,
     ⟨(some 317), (some (314, false)), .bin .neq (.tmp 315) (.tmp 316)⟩,
     ⟨(some 318), none, .pick (.tmp 314) (.lit (.bool true)) (.tmp 317)⟩,
     ⟨(some 319), none, .mov (.tmp 318)⟩,
     ⟨(some 320), (some (319, false)), .mov (.tmp 41)⟩,
     ⟨(some 321), (some (319, false)), .mov (.tmp 47)⟩,
     ⟨(some 322), (some (319, false)), .bin .neq (.tmp 320) (.tmp 321)⟩,
     ⟨(some 323), none, .pick (.tmp 319) (.lit (.bool true)) (.tmp 322)⟩,
     ⟨(some 324), none, .mov (.tmp 323)⟩,
     ⟨(some 325), (some (324, false)), .mov (.tmp 39)⟩,
     ⟨(some 326), (some (324, false)), .mov (.tmp 40)⟩,
     ⟨(some 327), (some (324, false)), .mov (.tmp 42)⟩,
     ⟨(some 328), (some (324, false)), .mov (.tmp 43)⟩,
     ⟨(some 329), (some (324, false)), .mov (.tmp 45)⟩,
     ⟨(some 330), (some (324, false)), .mov (.tmp 46)⟩,
     ⟨(some 331), (some (324, false)), .mxmn false (.tmp 325) [(.tmp 326), (.tmp 327), (.tmp 328), (.tmp 329), (.tmp 330)]⟩,
     ⟨(some 332), (some (324, false)), .bin .lss (.tmp 331) (.lit (.int .i64 0))⟩,
     ⟨(some 333), none, .pick (.tmp 324) (.lit (.bool true)) (.tmp 332)⟩])
  (.cond (.tmp 333) (.seq (.reg [⟨(some 2), none, .mov (.lit (.bool false))⟩])
   (.ret))
    (.skip)))
 (.seq (.seq (.reg [⟨(some 334), none, .mov (.tmp 48)⟩,
     ⟨(some 335), none, .mov (.tmp 39)⟩,
     ⟨(some 336), none, .call (.tmp 334) [(.tmp 335)]⟩,
     ⟨(some 337), none, .mov (.tmp 48)⟩,
     ⟨(some 338), none, .mov (.tmp 40)⟩,
     ⟨(some 339), none, .call (.tmp 337) [(.tmp 338)]⟩,
     ⟨(some 340), none, .bin .add (.tmp 336) (.tmp 339)⟩,
     ⟨(some 341), none, .mov (.tmp 48)⟩,
     ⟨(some 342), none, .mov (.tmp 42)⟩,
     ⟨(some 343), none, .call (.tmp 341) [(.tmp 342)]⟩,
     ⟨(some 344), none, .mov (.tmp 48)⟩,
     ⟨(some 345), none, .mov (.tmp 43)⟩,
     ⟨(some 346), none, .call (.tmp 344) [(.tmp 345)]⟩,
     ⟨(some 347), none, .bin .add (.tmp 343) (.tmp 346)⟩,
     ⟨(some 348), none, .bin .neq (.tmp 340) (.tmp 347)⟩,
     ⟨(some 349), none, .mov (.tmp 348)⟩,
     ⟨(some 350), (some (349, false)), .mov (.tmp 48)⟩,
     ⟨(some 351), (some (349, false)), .mov (.tmp 39)⟩,
     ⟨(some 352), (some (349, false)), .call (.tmp 350) [(.tmp 351)]⟩,
     ⟨(some 353), (some (349, false)), .mov (.tmp 48)⟩,
     ⟨(some 354), (some (349, false)), .mov (.tmp 40)⟩,
     ⟨(some 355), (some (349, false)), .call (.tmp 353) [(.tmp 354)]⟩,
     ⟨(some 356), (some (349, false)), .bin .add (.tmp 352) (.tmp 355)⟩,
     ⟨(some 357), (some (349, false)), .mov (.tmp 48)⟩,
     ⟨(some 358), (some (349, false)), .mov (.tmp 45)⟩,
     ⟨(some 359), (some (349, false)), .call (.tmp 357) [(.tmp 358)]⟩,
     ⟨(some 360), (some (349, false)), .mov (.tmp 48)⟩,
     ⟨(some 361), (some (349, false)), .mov (.tmp 46)⟩,
     ⟨(some 362), (some (349, false)), .call (.tmp 360) [(.tmp 361)]⟩,
     ⟨(some 363), (some (349, false)), .bin .add (.tmp 359) (.tmp 362)⟩,
     ⟨(some 364), (some (349, false)), .bin .neq (.tmp 356) (.tmp 363)⟩,
     ⟨(some 365), none, .pick (.tmp 349) (.lit (.bool true)) (.tmp 364)⟩])
  (.cond (.tmp 365) (.seq (.reg [⟨(some 2), none, .mov (.lit (.bool false))⟩])
   (.ret))
    (.skip)))
 (.seq (.seq (.reg [⟨(some 366), none, .mov (.tmp 3)⟩,
     ⟨(some 367), none, .mov (.lit (.int .i64 0))⟩])
  (.block 6 (.loop (.seq (.reg [⟨(some 368), none, .bin .lss (.tmp 367) (.tmp 366)⟩])
   (.seq (.cond (.tmp 368) (.skip)
      (.exit 6))
   (.seq (.block 7 (.seq (.reg [⟨(some 369), none, .mov (.tmp 367)⟩,
       ⟨(some 49), none, .mov (.tmp 369)⟩])
    (.seq (.reg [⟨(some 371), none, .load true 3 (.tmp 1)⟩,
       ⟨(some 372), none, .mov (.tmp 49)⟩,
       ⟨(some 373), none, .call (.fn 17) [(.tmp 371), (.tmp 372)]⟩,
       ⟨(some 370), none, .mov (.tmp 373)⟩,
       ⟨(some 374), none, .ext (.tmp 370) 0⟩,
       ⟨(some 375), none, .ext (.tmp 370) 1⟩,
       ⟨(some 50), none, .alloc [(.int .i64 0), (.int .i64 0)]⟩,
       ⟨none, none, .store 2 (.tmp 50) (.tmp 374)⟩,
       ⟨(some 51), none, .mov (.tmp 375)⟩])
    (.seq (.reg [⟨(some 377), none, .load true 3 (.tmp 6)⟩,
       ⟨(some 378), none, .mov (.tmp 49)⟩,
       ⟨(some 379), none, .call (.fn 17) [(.tmp 377), (.tmp 378)]⟩,
       ⟨(some 376), none, .mov (.tmp 379)⟩,
       ⟨(some 380), none, .ext (.tmp 376) 0⟩,
       ⟨(some 381), none, .ext (.tmp 376) 1⟩,
       ⟨(some 52), none, .alloc [(.int .i64 0), (.int .i64 0)]⟩,
       ⟨none, none, .store 2 (.tmp 52) (.tmp 380)⟩,
       ⟨(some 53), none, .mov (.tmp 381)⟩])
    (.seq (.reg [⟨(some 383), none, .load true 3 (.tmp 7)⟩,
       ⟨(some 384), none, .mov (.tmp 3)⟩,
       ⟨(some 385), none, .bin .sub (.tmp 384) (.lit (.int .i64 1))⟩,
       ⟨(some 386), none, .mov (.tmp 49)⟩,
       ⟨(some 387), none, .bin .sub (.tmp 385) (.tmp 386)⟩,
       ⟨(some 388), none, .call (.fn 17) [(.tmp 383), (.tmp 387)]⟩,
       ⟨(some 382), none, .mov (.tmp 388)⟩,
       ⟨(some 389), none, .ext (.tmp 382) 0⟩,
       ⟨(some 390), none, .ext (.tmp 382) 1⟩,
       ⟨(some 54), none, .alloc [(.int .i64 0), (.int .i64 0)]⟩,
       ⟨none, none, .store 2 (.tmp 54) (.tmp 389)⟩,
       ⟨(some 55), none, .mov (.tmp 390)⟩])
    (.seq (.draw (.step ⟨(some 391), none, .load true 2 (.tmp 50)⟩ (
       .step ⟨(some 392), none, .load true 2 (.tmp 52)⟩ (
       .step ⟨(some 393), none, .eqs true [(some .i64), (some .i64)] (.tmp 391) (.tmp 392)⟩ (
       .step ⟨(some 394), none, .mov (.tmp 393)⟩ (
       .step ⟨(some 395), (some (394, false)), .mov (.tmp 51)⟩ (
       .step ⟨(some 396), (some (394, false)), .mov (.tmp 53)⟩ (
       .step ⟨(some 397), (some (394, false)), .bin .neq (.tmp 395) (.tmp 396)⟩ (
       .step ⟨(some 398), none, .pick (.tmp 394) (.lit (.bool true)) (.tmp 397)⟩ (
       .step ⟨(some 399), none, .mov (.tmp 398)⟩ (
       .step ⟨(some 400), (some (399, false)), .load true 2 (.tmp 50)⟩ (
       .step ⟨(some 401), (some (399, false)), .load true 2 (.tmp 54)⟩ (
       .step ⟨(some 402), (some (399, false)), .eqs true [(some .i64), (some .i64)] (.tmp 400) (.tmp 401)⟩ (
       .step ⟨(some 403), none, .pick (.tmp 399) (.lit (.bool true)) (.tmp 402)⟩ (
       .step ⟨(some 404), none, .mov (.tmp 403)⟩ (
       .step ⟨(some 405), (some (404, false)), .mov (.tmp 51)⟩ (
       .step ⟨(some 406), (some (404, false)), .mov (.tmp 55)⟩ (
       .step ⟨(some 407), (some (404, false)), .bin .neq (.tmp 405) (.tmp 406)⟩ (
       .step ⟨(some 408), none, .pick (.tmp 404) (.lit (.bool true)) (.tmp 407)⟩ (
       .step ⟨(some 409), none, .mov (.tmp 408)⟩ (
       .step ⟨(some 410), (some (409, false)), .mov (.tmp 13)⟩ (
       .step ⟨(some 411), (some (409, false)), .mov (.tmp 49)⟩ (
       .step ⟨(some 412), (some (409, false)), .iaddr 6 (.tmp 410) (.tmp 411)⟩ (
       .step ⟨(some 413), (some (409, false)), .load true 6 (.tmp 412)⟩ (
       .step ⟨(some 414), (some (409, false)), .faddr 0 (.tmp 1)⟩ (
       .step ⟨(some 415), (some (409, false)), .load false 1 (.tmp 414)⟩ (
       .step ⟨(some 416), (some (409, false)), .mov (.tmp 49)⟩ (
       .step ⟨(some 417), (some (409, false)), .iaddr 6 (.tmp 415) (.tmp 416)⟩ (
       .step ⟨(some 418), (some (409, false)), .load true 6 (.tmp 417)⟩ (
       .step ⟨(some 419), (some (409, false)), .eqs true [(some .i64), (some .i64), (some .i64), (some .i64), (some .i64), (some .i64)] (.tmp 413) (.tmp 418)⟩ (
       .step ⟨(some 420), none, .pick (.tmp 409) (.lit (.bool true)) (.tmp 419)⟩ (
       .done))))))))))))))))))))))))))))))))
    (.cond (.tmp 420) (.seq (.reg [⟨(some 2), none, .mov (.lit (.bool false))⟩])
     (.ret))
      (.skip))))))))
   (.reg [⟨(some 421), none, .bin .add (.tmp 367) (.lit (.int .i64 1))⟩,
     ⟨(some 367), none, .mov (.tmp 421)⟩])))))))
 (.seq (.seq (.reg [⟨(some 422), none, .mov (.tmp 14)⟩,
     ⟨(some 423), none, .len (.tmp 422)⟩,
     ⟨(some 424), none, .mov (.lit (.int .i64 0))⟩])
  (.block 8 (.loop (.seq (.reg [⟨(some 425), none, .bin .lss (.tmp 424) (.tmp 423)⟩])
   (.seq (.cond (.tmp 425) (.skip)
      (.exit 8))
   (.seq (.block 9 (.seq (.reg [⟨(some 426), none, .mov (.tmp 424)⟩,
       ⟨(some 56), none, .mov (.tmp 426)⟩])
    (.seq (.draw (.step ⟨(some 427), none, .mov (.tmp 14)⟩ (
       .step ⟨(some 428), none, .mov (.tmp 56)⟩ (
       .step ⟨(some 429), none, .iaddr 2 (.tmp 427) (.tmp 428)⟩ (
       .step ⟨(some 430), none, .load true 2 (.tmp 429)⟩ (
       .step ⟨(some 431), none, .faddr 1 (.tmp 1)⟩ (
       .step ⟨(some 432), none, .load false 1 (.tmp 431)⟩ (
       .step ⟨(some 433), none, .mov (.tmp 56)⟩ (
       .step ⟨(some 434), none, .iaddr 2 (.tmp 432) (.tmp 433)⟩ (
       .step ⟨(some 435), none, .load true 2 (.tmp 434)⟩ (
       .step ⟨(some 436), none, .eqs true [(some .i64), (some .i64)] (.tmp 430) (.tmp 435)⟩ (
       .done))))))))))))
    (.cond (.tmp 436) (.seq (.reg [⟨(some 2), none, .mov (.lit (.bool false))⟩])
     (.ret))
      (.skip)))))
   (.reg [⟨(some 437), none, .bin .add (.tmp 424) (.lit (.int .i64 1))⟩,
     ⟨(some 424), none, .mov (.tmp 437)⟩])))))))
 (.seq (.reg [⟨(some 438), none, .call (.fn 14) []⟩,
    ⟨(some 2), none, .mov (.tmp 438)⟩])
 (.ret))))))))))))))))))))))))))
theorem k12 : FnC Try.prog 12 439 [] [] [.tmp 2] c12 1 := ⟨Try.f12, _, Try.func12, rfl, by decide, rfl, by decide, by kernel_rfl, by kernel_rfl⟩
end Go.Proofs.Yticdacdflemoiaa

/- Towels that are turned: plain laws. -/
namespace Go.Proofs.Yticdacdflemoiaa
open Go Go.Ab

def swapB (b : B) : B := { b with hut := b.half, half := b.hut }
def swapT (t : Tw) : Tw := { bs := t.bs.map swapB, hs := t.vs, vs := t.hs }

theorem swap_same (a b : B) : sameP (swapB b) (swapB a) = sameP b a := by
  unfold sameP swapB
  simp only
  rw [Bool.and_comm]
theorem swapT_OK {t : Tw} (ht : t.OK) : (swapT t).OK := by
  refine ⟨by simpa [swapT] using ht.nb, ht.nv, ht.nh, ht.vs, ht.hs, ?_, ?_⟩
  · intro x hx
    obtain ⟨b, hb, rfl⟩ := List.mem_map.1 hx
    have := ht.bs b hb
    simp only [swapB, swapT]
    omega
  · simp only [swapT]
    rw [List.pairwise_map]
    exact ht.ne.imp fun h => by rw [swap_same]; exact h

theorem sumSel_map (f : B → B) (p : B → Bool) (bs : List B) (l : List Int) : sumSel p (bs.map f) l = sumSel (fun b => p (f b)) bs l := by
  unfold sumSel
  rw [List.zip_map_left, List.map_map]
  rfl

theorem swapT_truth {t : Tw} {a b : Nat} {l : List Int} : Truth (swapT t) b a l ↔ Truth t a b l := by
  have w : ∀ x : B, words (swapB x) = words x := fun x => rfl
  have h1 : ∀ i : Nat, sumSel (fun x => x.hut == (i : Int)) (swapT t).bs l = sumSel (fun x => x.half == (i : Int)) t.bs l := fun i => by
    show sumSel _ (t.bs.map swapB) l = _
    rw [sumSel_map]
    rfl
  have h2 : ∀ i : Nat, sumSel (fun x => x.half == (i : Int)) (swapT t).bs l = sumSel (fun x => x.hut == (i : Int)) t.bs l := fun i => by
    show sumSel _ (t.bs.map swapB) l = _
    rw [sumSel_map]
    rfl
  constructor
  · intro h
    refine ⟨by simpa [swapT] using h.len, fun i x hx => ?_, fun i s hs hb => ?_, fun i s hs hb => ?_⟩
    · have := h.word i (swapB x) (by simp [swapT, hx])
      rwa [w] at this
    · have := h.half i s hs hb
      rwa [h2] at this
    · have := h.hut i s hs hb
      rwa [h1] at this
  · intro h
    refine ⟨by simpa [swapT] using h.len, fun i x hx => ?_, fun i s hs hb => ?_, fun i s hs hb => ?_⟩
    · simp only [swapT, List.getElem?_map] at hx
      obtain ⟨y, hy, rfl⟩ := Option.map_eq_some_iff.1 hx
      rw [w]
      exact h.word i y hy
    · rw [h1]
      exact h.half i s hs hb
    · rw [h2]
      exact h.hut i s hs hb

theorem tupsK_words {t x : Tw} (h : x.bs.map words = t.bs.map words) : ∀ k, tupsK x (-1) 0 0 k = tupsK t (-1) 0 0 k
  | 0 => rfl
  | k + 1 => by
    have ih := tupsK_words h k
    have hk : (x.bs[k]?).map words = (t.bs[k]?).map words := by rw [← List.getElem?_map, h, List.getElem?_map]
    unfold tupsK
    rw [ih]
    refine flatMap_congr' fun l _ => ?_
    cases hx : x.bs[k]? with
    | none =>
      rw [hx] at hk
      have : t.bs[k]? = none := by cases h2 : t.bs[k]? <;> simp_all
      rw [this]
    | some b =>
      rw [hx] at hk
      cases h2 : t.bs[k]? with
      | none => rw [h2] at hk; simp at hk
      | some c =>
        rw [h2] at hk
        simp only [Option.map_some, Option.some.injEq] at hk
        simp only
        rw [canL_none, canL_none, hk]

theorem swapT_docA {t : Tw} (ht : t.OK) : docA (swapT t) = docA t := by
  have hx := swapT_OK ht
  have hlen : (swapT t).bs.length = t.bs.length := by simp [swapT]
  have e1 := docT_eq hx (2 ^ (swapT t).hs.length - 1) (2 ^ (swapT t).vs.length - 1)
  have e2 := docT_eq ht (2 ^ t.hs.length - 1) (2 ^ t.vs.length - 1)
  unfold docA
  rw [e1, e2]
  unfold truthsC
  rw [tupsK_words (t := t) (by simp only [swapT, List.map_map]; rfl), hlen]
  refine List.filter_congr fun l hl => ?_
  have m1 := mem_docT hx (a := 2 ^ (swapT t).hs.length - 1) (b := 2 ^ (swapT t).vs.length - 1) (l := l)
  have m2 := mem_docT ht (a := 2 ^ t.hs.length - 1) (b := 2 ^ t.vs.length - 1) (l := l)
  rw [e1] at m1
  rw [e2] at m2
  unfold truthsC at m1 m2
  rw [tupsK_words (t := t) (by simp only [swapT, List.map_map]; rfl), hlen, List.mem_filter, show (2 ^ (swapT t).hs.length - 1) = 2 ^ t.vs.length - 1 from rfl, show (2 ^ (swapT t).vs.length - 1) = 2 ^ t.hs.length - 1 from rfl, swapT_truth, ← m2, List.mem_filter] at m1
  rw [Bool.eq_iff_iff]
  constructor
  · intro h; exact (m1.1 ⟨hl, h⟩).2
  · intro h; exact (m1.2 ⟨hl, h⟩).2

theorem swapT_clash {t : Tw} (ht : t.OK) (a b : Nat) : clashG (swapT t) (b, a) = clashG t (a, b) := by
  have h2 : (clashG (swapT t) (b, a)).2 = (clashG t (a, b)).2 := by
    rw [clashG_ok (swapT_OK ht), clashG_ok ht, Bool.eq_iff_iff, beq_iff_eq, beq_iff_eq]
    have key : docT (swapT t) b a = [] ↔ docT t a b = [] := by
      rw [List.eq_nil_iff_forall_not_mem, List.eq_nil_iff_forall_not_mem]
      simp only [mem_docT (swapT_OK ht), mem_docT ht, swapT_truth]
    constructor
    · intro h
      have := key.1 (List.eq_nil_of_length_eq_zero (by simp only at h; omega))
      simp [this]
    · intro h
      have := key.2 (List.eq_nil_of_length_eq_zero (by simp only at h; omega))
      simp [this]
  have h1 : (clashG (swapT t) (b, a)).1 = (clashG t (a, b)).1 := by
    rw [clashG_cost, clashG_cost]
    simp only
    omega
  exact Prod.ext h1 h2

/-! ### Numbered from the other end -/
def revB (h v : Nat) (b : B) : B := { b with hut := (h : Int) - 1 - b.hut, half := (v : Int) - 1 - b.half }
def revT (t : Tw) : Tw := { bs := (t.bs.map (revB t.hs.length t.vs.length)).reverse, hs := t.hs.reverse, vs := t.vs.reverse }

theorem revT_OK {t : Tw} (ht : t.OK) : (revT t).OK := by
  refine ⟨by simpa [revT] using ht.nb, by simpa [revT] using ht.nh, by simpa [revT] using ht.nv, ?_, ?_, ?_, ?_⟩
  · intro s hs; exact ht.hs s (by simpa [revT] using hs)
  · intro s hs; exact ht.vs s (by simpa [revT] using hs)
  · intro x hx
    simp only [revT, List.mem_reverse] at hx
    obtain ⟨b, hb, rfl⟩ := List.mem_map.1 hx
    have := ht.bs b hb
    simp only [revB, revT, List.length_reverse]
    omega
  · simp only [revT]
    rw [List.pairwise_reverse, List.pairwise_map]
    refine ht.ne.imp fun {a b} h => ?_
    unfold sameP at *
    simp only [revB]
    rw [← Bool.not_eq_true, Bool.and_eq_true, beq_iff_eq, beq_iff_eq] at h ⊢
    omega

theorem revT_get {t : Tw} {i : Nat} {b : B} (hb : t.bs[i]? = some b) : (revT t).bs[t.bs.length - 1 - i]? = some (revB t.hs.length t.vs.length b) := by
  have hi := (List.getElem?_eq_some_iff.1 hb).1
  simp only [revT]
  rw [List.getElem?_reverse (by simp; omega), List.length_map, show t.bs.length - 1 - (t.bs.length - 1 - i) = i by omega, List.getElem?_map, hb]
  rfl

theorem zip_rev {α β : Type} : ∀ (a : List α) (b : List β), b.length = a.length → a.reverse.zip b.reverse = (a.zip b).reverse
  | [], [], _ => rfl
  | [], _ :: _, h => by simp at h
  | _ :: _, [], h => by simp at h
  | x :: a, y :: b, h => by
    simp only [List.length_cons, Nat.add_right_cancel_iff] at h
    simp only [List.reverse_cons, List.zip_cons_cons]
    rw [List.zip_append (by simp [h]), zip_rev a b h]
    rfl

theorem sumSel_rev (p : B → Bool) (bs : List B) (l : List Int) (h : l.length = bs.length) : sumSel p bs.reverse l.reverse = sumSel p bs l := by
  unfold sumSel
  rw [zip_rev bs l h, List.map_reverse]
  exact sum_perm (List.reverse_perm _)

theorem getD_rev {l : List Int} {i : Nat} (h : i < l.length) : l.reverse.getD i 0 = l.getD (l.length - 1 - i) 0 := by
  rw [List.getD_eq_getElem?_getD, List.getElem?_reverse h, ← List.getD_eq_getElem?_getD]

/-- Some sets' bits, from the other end. -/
def rv (n a : Nat) : Nat := maskOf (fun i => a.testBit (n - 1 - i)) n
theorem rv_bit (n a i : Nat) : (rv n a).testBit i = (decide (i < n) && a.testBit (n - 1 - i)) := testBit_maskOf _ n i
theorem rv_lt (n a : Nat) : rv n a < 2 ^ n := maskOf_lt _ n
theorem rv_size : ∀ n ≤ 6, ∀ a < 2 ^ n, size (rv n a) = size a := by decide +kernel

theorem revT_truth1 {t : Tw} (ht : t.OK) {a b : Nat} {l : List Int} (h : Truth t a b l) : Truth (revT t) (rv t.hs.length a) (rv t.vs.length b) l.reverse := by
  have w : ∀ x : B, words (revB t.hs.length t.vs.length x) = words x := fun x => rfl
  have hl := h.len
  have sel : ∀ p : B → Bool, sumSel p (revT t).bs l.reverse = sumSel (fun x => p (revB t.hs.length t.vs.length x)) t.bs l := fun p => by
    show sumSel p ((t.bs.map (revB t.hs.length t.vs.length)).reverse) l.reverse = _
    rw [sumSel_rev _ _ _ (by simpa using hl), sumSel_map]
  refine ⟨by simpa [revT] using hl, fun i x hx => ?_, fun i s hs hb => ?_, fun i s hs hb => ?_⟩
  · have hi := (List.getElem?_eq_some_iff.1 hx).1
    simp only [revT, List.length_reverse, List.length_map] at hi
    rw [getD_rev (by omega)]
    simp only [revT] at hx
    rw [List.getElem?_reverse (by simpa using hi), List.length_map, List.getElem?_map] at hx
    obtain ⟨y, hy, rfl⟩ := Option.map_eq_some_iff.1 hx
    rw [w, hl]
    exact h.word _ y hy
  · have hi := (List.getElem?_eq_some_iff.1 hs).1
    simp only [revT, List.length_reverse] at hi
    simp only [revT] at hs
    rw [List.getElem?_reverse hi] at hs
    rw [rv_bit, Bool.and_eq_true] at hb
    have h1 := h.hut _ s hs hb.2
    rw [sel]
    have e : (fun x : B => (revB t.hs.length t.vs.length x).hut == (i : Int)) = fun x => x.hut == ((t.hs.length - 1 - i : Nat) : Int) := by
      funext x
      simp only [revB]
      rw [Bool.eq_iff_iff, beq_iff_eq, beq_iff_eq]
      omega
    rw [e]
    exact h1
  · have hi := (List.getElem?_eq_some_iff.1 hs).1
    simp only [revT, List.length_reverse] at hi
    simp only [revT] at hs
    rw [List.getElem?_reverse hi] at hs
    rw [rv_bit, Bool.and_eq_true] at hb
    have h1 := h.half _ s hs hb.2
    rw [sel]
    have e : (fun x : B => (revB t.hs.length t.vs.length x).half == (i : Int)) = fun x => x.half == ((t.vs.length - 1 - i : Nat) : Int) := by
      funext x
      simp only [revB]
      rw [Bool.eq_iff_iff, beq_iff_eq, beq_iff_eq]
      omega
    rw [e]
    exact h1

theorem revT_rev (t : Tw) : revT (revT t) = t := by
  obtain ⟨bs, hs, vs⟩ := t
  simp only [revT, List.length_reverse, List.reverse_reverse, List.map_reverse, List.map_map]
  congr 1
  conv => rhs; rw [← List.map_id bs]
  refine List.map_congr_left fun b _ => ?_
  obtain ⟨h, v, ll, lh, bl, bh⟩ := b
  simp only [Function.comp_apply, revB, id, B.mk.injEq, and_true]
  omega

theorem rv_rv (n a i : Nat) (hi : i < n) : (rv n (rv n a)).testBit i = a.testBit i := by
  rw [rv_bit, rv_bit, decide_eq_true hi, decide_eq_true (show n - 1 - i < n by omega), show n - 1 - (n - 1 - i) = i by omega]
  rfl

theorem Truth.bits {t : Tw} {a b a' b' : Nat} {l : List Int} (h : Truth t a b l) (ha : ∀ i < t.hs.length, a'.testBit i = true → a.testBit i = true) (hb : ∀ i < t.vs.length, b'.testBit i = true → b.testBit i = true) : Truth t a' b' l :=
  ⟨h.len, h.word, fun i s hs h1 => h.hut i s hs (ha i (List.getElem?_eq_some_iff.1 hs).1 h1), fun i s hs h1 => h.half i s hs (hb i (List.getElem?_eq_some_iff.1 hs).1 h1)⟩

theorem revT_truth {t : Tw} (ht : t.OK) {a b : Nat} {l : List Int} : Truth (revT t) (rv t.hs.length a) (rv t.vs.length b) l.reverse ↔ Truth t a b l := by
  constructor
  · intro h
    have h2 := revT_truth1 (revT_OK ht) h
    rw [revT_rev, List.reverse_reverse] at h2
    simp only [revT, List.length_reverse] at h2
    exact h2.bits (fun i hi h => by rw [rv_rv _ _ _ hi]; exact h) (fun i hi h => by rw [rv_rv _ _ _ hi]; exact h)
  · exact revT_truth1 ht

theorem revT_full {t : Tw} (ht : t.OK) {l : List Int} : fullT (revT t) l.reverse ↔ fullT t l := by
  unfold fullT
  rw [← revT_truth ht]
  have e : ∀ n i, i < n → (rv n (2 ^ n - 1)).testBit i = (2 ^ n - 1).testBit i := fun n i hi => by
    rw [rv_bit, Nat.testBit_two_pow_sub_one, Nat.testBit_two_pow_sub_one, decide_eq_true hi, decide_eq_true (show n - 1 - i < n by omega)]
    rfl
  constructor
  · intro h
    refine h.bits (fun i hi h => ?_) (fun i hi h => ?_)
    · simp only [revT, List.length_reverse] at hi ⊢
      rwa [e _ _ hi] at h
    · simp only [revT, List.length_reverse] at hi ⊢
      rwa [e _ _ hi] at h
  · intro h
    refine h.bits (fun i hi h => ?_) (fun i hi h => ?_)
    · simp only [revT, List.length_reverse] at hi h
      rwa [e _ _ hi]
    · simp only [revT, List.length_reverse] at hi h
      rwa [e _ _ hi]

theorem revT_mem {t : Tw} (ht : t.OK) {l : List Int} : l ∈ docA (revT t) ↔ l.reverse ∈ docA t := by
  rw [mem_docA (revT_OK ht), mem_docA ht, ← revT_full ht, List.reverse_reverse]

theorem revT_perm {t : Tw} (ht : t.OK) : (docA (revT t)).Perm ((docA t).map List.reverse) := by
  rw [List.perm_ext_iff_of_nodup (docA_nodup (revT_OK ht))]
  · intro l
    rw [revT_mem ht, List.mem_map]
    constructor
    · intro h; exact ⟨_, h, List.reverse_reverse l⟩
    · rintro ⟨m, hm, rfl⟩; rwa [List.reverse_reverse]
  · unfold List.Nodup
    rw [List.pairwise_map]
    exact (docA_nodup ht).imp fun h e => h (by simpa using e)

theorem revT_count {t : Tw} (ht : t.OK) : (docA (revT t)).length = (docA t).length := by
  have := (revT_perm ht).length_eq
  simpa using this

theorem revT_many {t : Tw} (ht : t.OK) {i : Nat} (hi : i < t.bs.length) (k : Nat) : manyD (docA (revT t)) (t.bs.length - 1 - i) k = manyD (docA t) i k := by
  unfold manyD
  rw [(revT_perm ht).countP_eq, List.countP_map]
  refine List.countP_congr fun l hl => ?_
  have hlen := (docA_mem ht hl).1
  simp only [Function.comp_apply]
  rw [getD_rev (by omega), show l.length - 1 - (t.bs.length - 1 - i) = i by omega]

theorem revT_left {t : Tw} (ht : t.OK) {i : Nat} (hi : i < t.bs.length) : leftD (docA (revT t)) (t.bs.length - 1 - i) = leftD (docA t) i := by
  have : ∀ k, leftK (docA (revT t)) (t.bs.length - 1 - i) k = leftK (docA t) i k := by
    intro k
    induction k with
    | zero => rfl
    | succ k ih => simp only [leftK]; rw [ih, revT_many ht hi]
  exact this 5

theorem revT_best {t : Tw} (ht : t.OK) (hn : 0 < t.bs.length) : leftD (docA (revT t)) (bestD (docA (revT t)) t.bs.length) = leftD (docA t) (bestD (docA t) t.bs.length) := by
  obtain ⟨a1, a2⟩ := bestD_at (docA t) t.bs.length hn
  obtain ⟨b1, b2⟩ := bestD_at (docA (revT t)) t.bs.length hn
  have h1 := a2 (t.bs.length - 1 - bestD (docA (revT t)) t.bs.length) (by omega)
  have h2 := b2 (t.bs.length - 1 - bestD (docA t) t.bs.length) (by omega)
  rw [revT_left ht a1] at h2
  have h3 := revT_left ht (i := t.bs.length - 1 - bestD (docA (revT t)) t.bs.length) (by omega)
  rw [show t.bs.length - 1 - (t.bs.length - 1 - bestD (docA (revT t)) t.bs.length) = bestD (docA (revT t)) t.bs.length by omega] at h3
  omega

theorem hullD_congr {xs ys : List Int} (hx : xs ≠ []) (h : ∀ x, x ∈ xs ↔ x ∈ ys) : hullD xs = hullD ys := by
  have hy : ys ≠ [] := by
    obtain ⟨x, hx'⟩ := List.exists_mem_of_ne_nil _ hx
    exact List.ne_nil_of_mem ((h x).1 hx')
  have h1 := hullD_sub (xs := xs) (ys := ys) hy fun y hy => (h y).2 hy
  have h2 := hullD_sub (xs := ys) (ys := xs) hx fun y hy => (h y).1 hy
  exact Prod.ext (by omega) (by omega)

theorem revT_kept {t : Tw} (ht : t.OK) {i : Nat} (hi : i < t.bs.length) (hD : docA t ≠ []) : hullD ((docA (revT t)).map fun l => l.getD (t.bs.length - 1 - i) 0) = hullD ((docA t).map fun l => l.getD i 0) := by
  symm
  refine hullD_congr (by simpa using hD) fun x => ?_
  rw [List.mem_map, List.mem_map]
  constructor
  · rintro ⟨l, hl, rfl⟩
    have hlen := (docA_mem ht hl).1
    refine ⟨l.reverse, (revT_mem ht).2 (by rwa [List.reverse_reverse]), ?_⟩
    rw [getD_rev (by omega), show l.length - 1 - (t.bs.length - 1 - i) = i by omega]
  · rintro ⟨l, hl, rfl⟩
    have hm := (revT_mem ht).1 hl
    have hlen := (docA_mem ht hm).1
    rw [List.length_reverse] at hlen
    exact ⟨l.reverse, hm, by rw [getD_rev (by omega), hlen]⟩

theorem someOf_rev (l : List Int) : someOf l.reverse = rv l.length (someOf l) := by
  apply Nat.eq_of_testBit_eq
  intro i
  rw [rv_bit, Bool.eq_iff_iff, Bool.and_eq_true, someOf_bit, someOf_bit, List.length_reverse, decide_eq_true_eq]
  constructor
  · rintro ⟨h1, h2⟩
    rw [getD_rev h1] at h2
    exact ⟨h1, by omega, h2⟩
  · rintro ⟨h1, h2, h3⟩
    refine ⟨h1, ?_⟩
    rw [getD_rev h1]
    exact h3

theorem someOf_rev_size {l : List Int} (h : l.length ≤ 6) : size (someOf l.reverse) = size (someOf l) := by
  rw [someOf_rev]
  exact rv_size _ h _ (maskOf_lt _ _)

theorem revT_few {t : Tw} (ht : t.OK) (hD : docA t ≠ []) : size (fewD (docA (revT t))) = size (fewD (docA t)) := by
  have hD' : docA (revT t) ≠ [] := by
    intro e
    have := revT_count ht
    rw [e] at this
    exact hD (List.eq_nil_of_length_eq_zero this.symm)
  obtain ⟨⟨l, hl, e⟩, h1⟩ := fewD_is hD
  obtain ⟨⟨m, hm, e'⟩, h2⟩ := fewD_is hD'
  have q1 := h1 m.reverse ((revT_mem ht).1 hm)
  have q2 := h2 l.reverse ((revT_mem ht).2 (by rwa [List.reverse_reverse]))
  have hlm := (docA_mem ht ((revT_mem ht).1 hm)).1
  rw [List.length_reverse] at hlm
  have hll := (docA_mem ht hl).1
  have hnb := ht.nb
  rw [someOf_rev_size (by omega)] at q1 q2
  rw [e, e'] at *
  omega

theorem revT_clash {t : Tw} (ht : t.OK) {a b : Nat} (ha : a < 2 ^ t.hs.length) (hb : b < 2 ^ t.vs.length) : clashG (revT t) (rv t.hs.length a, rv t.vs.length b) = clashG t (a, b) := by
  have h2 : (clashG (revT t) (rv t.hs.length a, rv t.vs.length b)).2 = (clashG t (a, b)).2 := by
    rw [clashG_ok (revT_OK ht), clashG_ok ht, Bool.eq_iff_iff, beq_iff_eq, beq_iff_eq]
    have key : docT (revT t) (rv t.hs.length a) (rv t.vs.length b) = [] ↔ docT t a b = [] := by
      rw [List.eq_nil_iff_forall_not_mem, List.eq_nil_iff_forall_not_mem]
      simp only [mem_docT (revT_OK ht), mem_docT ht]
      constructor
      · intro h l hl
        exact h l.reverse ((revT_truth ht).2 hl)
      · intro h l hl
        have := (revT_truth ht (l := l.reverse)).1 (by rwa [List.reverse_reverse])
        exact h _ this
    constructor
    · intro h
      have := key.1 (List.eq_nil_of_length_eq_zero (by simp only at h; omega))
      simp [this]
    · intro h
      have := key.2 (List.eq_nil_of_length_eq_zero (by simp only at h; omega))
      simp [this]
  have h1 : (clashG (revT t) (rv t.hs.length a, rv t.vs.length b)).1 = (clashG t (a, b)).1 := by
    rw [clashG_cost, clashG_cost]
    simp only
    have := ht.nh
    have := ht.nv
    rw [rv_size _ (by omega) _ ha, rv_size _ (by omega) _ hb]
  exact Prod.ext h1 h2

/-- Of two kinds of pairs that go over into each other the best ones cost as much. -/
theorem bestP_same {g g' : Nat × Nat → Int × Bool} {a b a' b' : Nat} (f f' : Nat × Nat → Nat × Nat) (h : ∀ p, p.1 < a → p.2 < b → (f p).1 < a' ∧ (f p).2 < b' ∧ g' (f p) = g p) (h' : ∀ p, p.1 < a' → p.2 < b' → (f' p).1 < a ∧ (f' p).2 < b ∧ g (f' p) = g' p)
    {r r' : Option ((Nat × Nat) × Int)} (hr : BestP g a b r) (hr' : BestP g' a' b' r') : r.map (·.2) = r'.map (·.2) := by
  cases r with
  | none =>
    cases r' with
    | none => rfl
    | some q =>
      obtain ⟨p, c⟩ := q
      obtain ⟨h1, h2, h3, _⟩ := hr'
      obtain ⟨k1, k2, k3⟩ := h' p h1 h2
      have := hr (f' p).1 (f' p).2 k1 k2
      rw [show ((f' p).1, (f' p).2) = f' p from rfl, k3, h3] at this
      cases this
  | some q =>
    obtain ⟨p, c⟩ := q
    obtain ⟨h1, h2, h3, h4, h5⟩ := hr
    obtain ⟨k1, k2, k3⟩ := h p h1 h2
    cases r' with
    | none =>
      have := hr' (f p).1 (f p).2 k1 k2
      rw [show ((f p).1, (f p).2) = f p from rfl, k3, h3] at this
      cases this
    | some q' =>
      obtain ⟨p', c'⟩ := q'
      obtain ⟨m1, m2, m3, m4, m5⟩ := hr'
      obtain ⟨n1, n2, n3⟩ := h' p' m1 m2
      have q1 := h5 (f' p').1 (f' p').2 n1 n2 (by rw [show ((f' p').1, (f' p').2) = f' p' from rfl, n3]; exact m3)
      have q2 := m5 (f p).1 (f p).2 k1 k2 (by rw [show ((f p).1, (f p).2) = f p from rfl, k3]; exact h3)
      rw [show ((f' p').1, (f' p').2) = f' p' from rfl, n3, ← m4] at q1
      rw [show ((f p).1, (f p).2) = f p from rfl, k3, ← h4] at q2
      simp only [Option.map_some, Option.some.injEq]
      omega
end Go.Proofs.Yticdacdflemoiaa

/- TowelTurned. -/
namespace Go.Proofs.Yticdacdflemoiaa
open Go Go.Ab

theorem take_succ' {α : Type} {l : List α} {k : Nat} {x : α} (h : l[k]? = some x) : l.take (k + 1) = l.take k ++ [x] := by
  obtain ⟨hk, e⟩ := List.getElem?_eq_some_iff.1 h
  rw [List.take_succ_eq_append_getElem hk, e]

theorem toKeyB (b : B) : toKey (some [some .i64, some .i64, some .i64, some .i64, some .i64, some .i64], none) (.t (.agg [vi b.hut, vi b.half, vi b.ll, vi b.lh, vi b.bl, vi b.bh])) = some [b.hut, b.half, b.ll, b.lh, b.bl, b.bh] := by
  simp [toKey, cellKeys, cellKey]
theorem kEqB (b : B) : kEq [some .i64, some .i64, some .i64, some .i64, some .i64, some .i64] [b.hut, b.half, b.ll, b.lh, b.bl, b.bh] [b.hut, b.half, b.ll, b.lh, b.bl, b.bh] = true := by
  simp [kEq, cellEq]

theorem clash_is {t : Tw} (ht : t.OK) : ∃ (a b : Nat) (e : Int), specClash t = ((a : Int), (b : Int), e) ∧ a < 8 ∧ b < 8 ∧ (match bestL (clashG t) (pairsL (2 ^ t.hs.length) (2 ^ t.vs.length)) with
    | some (_, c) => c = ((size a + size b : Nat) : Int) ∧ e = 0
    | none => a = 0 ∧ b = 0 ∧ e = 4) := by
  have hok := (Tw.ok_iff t).2 ht
  have hB := bestP (clashG t) (2 ^ t.hs.length) (2 ^ t.vs.length)
  have hA8 := or_lt8 ht.nh
  have hV8 := or_lt8 ht.nv
  have hspec : specClash t = match bestL (clashG t) (pairsL (2 ^ t.hs.length) (2 ^ t.vs.length)) with
    | some (p, _) => (p.1, p.2, 0)
    | none => (0, 0, 4) := by simp only [specClash, hok]; rfl
  cases hb : bestL (clashG t) (pairsL (2 ^ t.hs.length) (2 ^ t.vs.length)) with
  | none =>
    rw [hb] at hspec
    exact ⟨0, 0, 4, hspec, by omega, by omega, rfl, rfl, rfl⟩
  | some q =>
    obtain ⟨p, c⟩ := q
    rw [hb] at hspec hB
    obtain ⟨b1, b2, _, b4, _⟩ := hB
    exact ⟨p.1, p.2, 0, hspec, by omega, by omega, b4, rfl⟩

theorem clash_turned {t x : Tw} (ht : t.OK) (hx : x.OK) (hs : (bestL (clashG t) (pairsL (2 ^ t.hs.length) (2 ^ t.vs.length))).map (·.2) = (bestL (clashG x) (pairsL (2 ^ x.hs.length) (2 ^ x.vs.length))).map (·.2)) {a b : Nat} {e : Int}
    (h : specClash t = ((a : Int), (b : Int), e)) : ∃ a' b' : Nat, specClash x = ((a' : Int), (b' : Int), e) ∧ a' < 8 ∧ b' < 8 ∧ size a' + size b' = size a + size b := by
  obtain ⟨a1, b1, e1, h1, _, _, h2⟩ := clash_is ht
  obtain ⟨a2, b2, e2, k1, k3, k4, k2⟩ := clash_is hx
  rw [h1] at h
  simp only [Prod.mk.injEq] at h
  obtain ⟨q1, q2, q3⟩ := h
  obtain rfl : a1 = a := by omega
  obtain rfl : b1 = b := by omega
  subst q3
  cases hb : bestL (clashG t) (pairsL (2 ^ t.hs.length) (2 ^ t.vs.length)) with
  | none =>
    cases hc : bestL (clashG x) (pairsL (2 ^ x.hs.length) (2 ^ x.vs.length)) with
    | none =>
      rw [hb] at h2
      rw [hc] at k2
      obtain ⟨rfl, rfl, rfl⟩ := h2
      obtain ⟨rfl, rfl, rfl⟩ := k2
      exact ⟨0, 0, k1, by omega, by omega, rfl⟩
    | some q => rw [hb, hc] at hs; simp at hs
  | some p =>
    obtain ⟨p, c⟩ := p
    cases hc : bestL (clashG x) (pairsL (2 ^ x.hs.length) (2 ^ x.vs.length)) with
    | none => rw [hb, hc] at hs; simp at hs
    | some q =>
      obtain ⟨q, c'⟩ := q
      rw [hb, hc] at hs
      simp only [Option.map_some, Option.some.injEq] at hs
      rw [hb] at h2
      rw [hc] at k2
      obtain ⟨h3, rfl⟩ := h2
      obtain ⟨k5, rfl⟩ := k2
      exact ⟨a2, b2, k1, k3, k4, by omega⟩

theorem swap_best {t : Tw} (ht : t.OK) : (bestL (clashG t) (pairsL (2 ^ t.hs.length) (2 ^ t.vs.length))).map (·.2) = (bestL (clashG (swapT t)) (pairsL (2 ^ (swapT t).hs.length) (2 ^ (swapT t).vs.length))).map (·.2) :=
  bestP_same (fun p => (p.2, p.1)) (fun p => (p.2, p.1)) (fun p h1 h2 => ⟨h2, h1, swapT_clash ht p.1 p.2⟩) (fun p h1 h2 => ⟨h2, h1, (swapT_clash ht p.2 p.1).symm⟩) (bestP _ _ _) (bestP _ _ _)

theorem rev_best {t : Tw} (ht : t.OK) : (bestL (clashG t) (pairsL (2 ^ t.hs.length) (2 ^ t.vs.length))).map (·.2) = (bestL (clashG (revT t)) (pairsL (2 ^ (revT t).hs.length) (2 ^ (revT t).vs.length))).map (·.2) := by
  have e1 : (revT t).hs.length = t.hs.length := by simp [revT]
  have e2 : (revT t).vs.length = t.vs.length := by simp [revT]
  refine bestP_same (fun p => (rv t.hs.length p.1, rv t.vs.length p.2)) (fun p => (rv t.hs.length p.1, rv t.vs.length p.2)) (fun p h1 h2 => ⟨by rw [e1]; exact rv_lt _ _, by rw [e2]; exact rv_lt _ _, revT_clash ht h1 h2⟩)
    (fun p h1 h2 => ⟨rv_lt _ _, rv_lt _ _, ?_⟩) (bestP _ _ _) (bestP _ _ _)
  have h := revT_clash (revT_OK ht) (a := p.1) (b := p.2) h1 h2
  rw [revT_rev, e1, e2] at h
  exact h

theorem swap_few {t : Tw} (ht : t.OK) : docFewest (swapT t) = docFewest t := by
  simp only [docFewest, (Tw.ok_iff _).2 ht, (Tw.ok_iff _).2 (swapT_OK ht), swapT_docA ht]
theorem swap_search {t : Tw} (ht : t.OK) : docSearch (swapT t) = docSearch t := by
  simp only [docSearch, (Tw.ok_iff _).2 ht, (Tw.ok_iff _).2 (swapT_OK ht), swapT_docA ht, show (swapT t).bs.length = t.bs.length by simp [swapT]]
theorem swap_kept {t : Tw} (ht : t.OK) (i : Int) : docKept (swapT t) i = docKept t i := by
  simp only [docKept, Tw.isB, (Tw.ok_iff _).2 ht, (Tw.ok_iff _).2 (swapT_OK ht), swapT_docA ht, show (swapT t).bs.length = t.bs.length by simp [swapT]]
  rfl

theorem rev_empty {t : Tw} (ht : t.OK) : (docA (revT t)).isEmpty = (docA t).isEmpty := by
  have := revT_count ht
  cases h : docA t <;> cases h2 : docA (revT t) <;> simp_all

theorem rev_few {t : Tw} (ht : t.OK) : ∃ g : Int, docFewest (revT t) = ((docFewest t).1, g, (docFewest t).2.2) := by
  refine ⟨(docFewest (revT t)).2.1, ?_⟩
  simp only [docFewest, (Tw.ok_iff _).2 ht, (Tw.ok_iff _).2 (revT_OK ht), rev_empty ht, if_true]
  cases h : (docA t).isEmpty
  · have hD : docA t ≠ [] := by simpa using h
    simp only [Bool.false_eq_true, if_false]
    rw [revT_few ht hD]
  · rfl

theorem rev_search {t : Tw} (ht : t.OK) : ∃ g : Int, docSearch (revT t) = (g, (docSearch t).2.1, (docSearch t).2.2) := by
  refine ⟨(docSearch (revT t)).1, ?_⟩
  have el : (revT t).bs.length = t.bs.length := by simp [revT]
  simp only [docSearch, (Tw.ok_iff _).2 ht, (Tw.ok_iff _).2 (revT_OK ht), rev_empty ht, if_true, revT_count ht, el]
  cases h : (docA t).isEmpty
  · simp only [Bool.false_eq_true, if_false]
    cases h2 : (((docA t).length : Int) == 1)
    · simp only [Bool.false_eq_true, if_false]
      have hn : 0 < t.bs.length := by
        rcases Nat.eq_zero_or_pos t.bs.length with h3 | h3
        · have hfew : (docA t).length ≤ 5 ^ t.bs.length := extL_many ht _ _ t.bs.length [] (by simp)
          rw [h3] at hfew
          have h4 : ¬ ((docA t).length : Int) = 1 := by simpa using h2
          have h5 : docA t ≠ [] := by simpa using h
          have := List.length_pos_iff.2 h5
          omega
        · exact h3
      rw [revT_best ht hn]
    · rfl
  · rfl

theorem rev_kept {t : Tw} (ht : t.OK) {k : Nat} (hk : k < t.bs.length) : docKept (revT t) ((t.bs.length - 1 - k : Nat) : Int) = docKept t k := by
  have el : (revT t).bs.length = t.bs.length := by simp [revT]
  have b1 : t.isB (k : Int) = true := by unfold Tw.isB wI; simp; omega
  have b2 : (revT t).isB ((t.bs.length - 1 - k : Nat) : Int) = true := by unfold Tw.isB wI; simp [el]; omega
  simp only [docKept, (Tw.ok_iff _).2 ht, (Tw.ok_iff _).2 (revT_OK ht), rev_empty ht, if_true, b1, b2, Int.toNat_natCast]
  cases h : (docA t).isEmpty
  · have hD : docA t ≠ [] := by simpa using h
    simp only [Bool.false_eq_true, if_false]
    rw [revT_kept ht hk hD]
  · rfl

set_option maxRecDepth 8000 in
set_option maxHeartbeats 4000000 in
theorem TowelTurned_ok (t : Tw) : ACall Try.prog 12 [.t (.agg (tw3 t))] [] (res (.ret (.t (vb true)))) := by
  refine ACall.walk k12 ?_
  unfold c12
  refine awpL_chop 2 (c1 := ?c1) (c2 := ?c2) (fun s => t.ok = true ∧ s.σ = [.cells ((tw3 t).map .t)] ∧ lk s.env 1 = .ptr 0 0 ∧ s.df = [] ∧ s.k = 0) ?hc ?_ ?_
  case hc => simp only [chop]; rfl
  · unfold tw3
    simp only [go_sem, Nat.reduceEqDiff, Nat.reduceAdd, Nat.reduceSub, Nat.reduceMul, Nat.reduceLT, Nat.reduceLeDiff, Nat.reduceMod, Nat.reduceDiv, Int.reduceToNat, Int.reduceLT, Int.reduceLE, Bool.not_true, Bool.not_false, reduceIte]
    refine ACallL.quiet1 (fine_ok t) rfl rfl rfl ?_
    cases hF : (!(farB t) && t.ok)
    · simp only [go_sem, Nat.reduceEqDiff, Nat.reduceAdd, Nat.reduceSub, Nat.reduceMul, Nat.reduceLT, Nat.reduceLeDiff, Nat.reduceMod, Nat.reduceDiv, Int.reduceToNat, Int.reduceLT, Int.reduceLE, Bool.not_true, Bool.not_false, reduceIte, Int.reduceEq, Int.reduceBEq, Int.reduceBNe, Int.reduceGT, Int.reduceGE, Int.reduceNeg, Int.reduceAdd, Int.reduceSub, Nat.reduceBEq, decide_true, decide_false, undef, beq_self_eq_true, bne_self_eq_false, Bool.and_true, Bool.true_and, Bool.and_false, Bool.false_and, Bool.or_true, Bool.true_or, Bool.or_false, Bool.false_or]
      refine ACallL.quiet1 awake_ok rfl rfl rfl ?_
      simp only [go_sem, Nat.reduceEqDiff, Nat.reduceAdd, Nat.reduceSub, Nat.reduceMul, Nat.reduceLT, Nat.reduceLeDiff, Nat.reduceMod, Nat.reduceDiv, Int.reduceToNat, Int.reduceLT, Int.reduceLE, Bool.not_true, Bool.not_false, reduceIte, Int.reduceEq, Int.reduceBEq, Int.reduceBNe, Int.reduceGT, Int.reduceGE, Int.reduceNeg, Int.reduceAdd, Int.reduceSub, Nat.reduceBEq, decide_true, decide_false, undef, beq_self_eq_true, bne_self_eq_false, Bool.and_true, Bool.true_and, Bool.and_false, Bool.false_and, Bool.or_true, Bool.true_or, Bool.or_false, Bool.false_or]
      exact finL_ret [] ⟨rfl, rfl, rfl, rfl, _, rfl, res_mk rfl⟩
    · have hok : t.ok = true := by cases h : t.ok <;> simp_all
      simp only [go_sem, Nat.reduceEqDiff, Nat.reduceAdd, Nat.reduceSub, Nat.reduceMul, Nat.reduceLT, Nat.reduceLeDiff, Nat.reduceMod, Nat.reduceDiv, Int.reduceToNat, Int.reduceLT, Int.reduceLE, Bool.not_true, Bool.not_false, reduceIte, Int.reduceEq, Int.reduceBEq, Int.reduceBNe, Int.reduceGT, Int.reduceGE, Int.reduceNeg, Int.reduceAdd, Int.reduceSub, Nat.reduceBEq, decide_true, decide_false, undef, beq_self_eq_true, bne_self_eq_false, Bool.and_true, Bool.true_and, Bool.and_false, Bool.false_and, Bool.or_true, Bool.true_or, Bool.or_false, Bool.false_or]
      exact hok
  rintro ⟨env, σ, df, k⟩ ⟨hok, hσ, h1, hdf, hk⟩
  simp only at hσ h1 hdf hk
  subst hσ hdf hk
  have ht := (Tw.ok_iff t).1 hok
  have hnb := ht.nb
  have hnh := ht.nh
  have hnv := ht.nv
  have hbs := ht.bs
  let tT : T := .ptr (.agg (tw3 t)) 0
  let x1 : E := .t (.slice 2 (t.vs.map tS))
  let x2 : E := .t (.slice 2 (t.hs.map tS))
  let base : List (Nat × E) := [(1, .t tT), (3, .t (vi t.bs.length)), (4, .t (vi t.hs.length)), (5, .t (vi t.vs.length)), (6, .ptr 0 0), (7, .ptr 1 0)]
  let ys := (revT t).bs
  refine awpL_chop 3 (c1 := ?d1) (c2 := ?d2) (fun s => s = { env := (80, .t (vb false)) :: (79, .t (vi t.bs.length)) :: (78, .t (vi t.bs.length)) :: (77, .t (.slice 6 (t.bs.map tB))) :: base, σ := [.cells [.loc 2 t.bs.length, x1, x2], .cells [.loc 3 t.bs.length, .t nilT, .t nilT], rowB (swapT t).bs, rowB ys] }) ?hc2 ?_ ?_
  case hc2 => simp only [chop]; rfl
  · unfold tw3
    simp only [go_sem, Nat.reduceEqDiff, Nat.reduceAdd, Nat.reduceSub, Nat.reduceMul, Nat.reduceLT, Nat.reduceLeDiff, Nat.reduceMod, Nat.reduceDiv, Int.reduceToNat, Int.reduceLT, Int.reduceLE, Bool.not_true, Bool.not_false, reduceIte, h1, List.length_map]
    have hyl : ys.length = t.bs.length := by simp [ys, revT]
    have hxl : (swapT t).bs.length = t.bs.length := by simp [swapT]
    refine awpL_for (i := 79) (L := 78) t.bs.length (fun k s => s = { env := (79, .t (vi k)) :: (78, .t (vi t.bs.length)) :: (77, .t (.slice 6 (t.bs.map tB))) :: base, σ := [.cells [.loc 2 k, x1, x2], .cells [.loc 3 k, .t nilT, .t nilT], rowB ((swapT t).bs.take k), rowB (ys.take k)] })
      ?_ ?_ ?_ ?_
    · rintro k s rfl; exact ⟨rfl, rfl⟩
    · refine ⟨_, (Sub.ghostC 1 0 6 (by decide) rfl rfl).trans ((Sub.ghostC 2 0 6 (by decide) rfl rfl).trans (Sub.gc [1, 2, 3, 4] [79, 78, 77, 1, 3, 4, 5, 6, 7] rfl rfl)), ?_⟩
      exact St.gc_mk (by simp only [List.map_cons, List.map_nil, lk, Nat.reduceEqDiff, reduceIte, h1]; rfl) rfl rfl rfl
    · rintro k s hk rfl
      have hw : IntKind.i64.wrap ((k : Int) + 1) = ((k + 1 : Nat) : Int) := by rw [wrap_id (by omega) (by omega)]; omega
      have hb : t.bs[k]? = some t.bs[k] := List.getElem?_eq_getElem hk
      have hb' : t.bs[t.bs.length - 1 - k]? = some t.bs[t.bs.length - 1 - k] := List.getElem?_eq_getElem (by omega)
      have hq := hbs _ (List.getElem_mem (show t.bs.length - 1 - k < t.bs.length by omega))
      have hx := take_succ' (l := (swapT t).bs) (k := k) (x := swapB t.bs[k]) (by simp [swapT, hb])
      have hy := take_succ' (l := ys) (k := k) (x := revB t.hs.length t.vs.length t.bs[t.bs.length - 1 - k]) (by
        have := revT_get hb'
        rwa [show t.bs.length - 1 - (t.bs.length - 1 - k) = k by omega] at this)
      have hl1 : ((swapT t).bs.take k).length = k := by rw [List.length_take]; omega
      have hl2 : (ys.take k).length = k := by rw [List.length_take]; omega
      rw [hx, hy]
      generalize (swapT t).bs.take k = L1 at *
      generalize ys.take k = L2 at *
      generalize t.bs[k] = b at *
      generalize t.bs[t.bs.length - 1 - k] = b' at *
      have w1 : IntKind.i64.wrap ((t.bs.length : Int) - 1) = (t.bs.length : Int) - 1 := wrap_id (by omega) (by omega)
      have w2 : IntKind.i64.wrap ((t.bs.length : Int) - 1 - k) = ((t.bs.length - 1 - k : Nat) : Int) := by rw [wrap_id (by omega) (by omega)]; omega
      have w3 : IntKind.i64.wrap ((t.hs.length : Int) - 1) = (t.hs.length : Int) - 1 := wrap_id (by omega) (by omega)
      have w4 : IntKind.i64.wrap ((t.vs.length : Int) - 1) = (t.vs.length : Int) - 1 := wrap_id (by omega) (by omega)
      have w5 : IntKind.i64.wrap ((t.hs.length : Int) - 1 - b'.hut) = (t.hs.length : Int) - 1 - b'.hut := wrap_id (by omega) (by omega)
      have w6 : IntKind.i64.wrap ((t.vs.length : Int) - 1 - b'.half) = (t.vs.length : Int) - 1 - b'.half := wrap_id (by omega) (by omega)
      simp only [base, tT, x1, x2, rowB, go_sem, Nat.reduceEqDiff, Nat.reduceAdd, Nat.reduceSub, Nat.reduceMul, Nat.reduceLT, Nat.reduceLeDiff, Nat.reduceMod, Nat.reduceDiv, Int.reduceToNat, Int.reduceLT, Int.reduceLE, Bool.not_true, Bool.not_false, reduceIte, tw3, List.length_map, List.getElem?_map, hb, hb', tB, nat_neg, hl1, hl2, maxLen]
      refine ACallL.quiet1 (bather_ok b.half b.hut b.ll b.lh b.bl b.bh) rfl rfl rfl ?_
      simp only [base, tT, x1, x2, rowB, go_sem, Nat.reduceEqDiff, Nat.reduceAdd, Nat.reduceSub, Nat.reduceMul, Nat.reduceLT, Nat.reduceLeDiff, Nat.reduceMod, Nat.reduceDiv, Int.reduceToNat, Int.reduceLT, Int.reduceLE, Bool.not_true, Bool.not_false, reduceIte, tw3, List.length_map, List.getElem?_map, hb, hb', tB, nat_neg, hl1, hl2, maxLen, w1, w2, w3, w4, w5, w6]
      refine ⟨⟨by omega, by omega⟩, ?_⟩
      refine ACallL.quiet1 (bather_ok ((t.hs.length : Int) - 1 - b'.hut) ((t.vs.length : Int) - 1 - b'.half) b'.ll b'.lh b'.bl b'.bh) rfl rfl rfl ?_
      simp only [base, tT, x1, x2, rowB, go_sem, Nat.reduceEqDiff, Nat.reduceAdd, Nat.reduceSub, Nat.reduceMul, Nat.reduceLT, Nat.reduceLeDiff, Nat.reduceMod, Nat.reduceDiv, Int.reduceToNat, Int.reduceLT, Int.reduceLE, Bool.not_true, Bool.not_false, reduceIte, tw3, List.length_map, List.getElem?_map, hb, hb', tB, nat_neg, hl1, hl2, maxLen, hw]
      refine ⟨⟨by omega, by omega⟩, _, Sub.gc [0, 1, 2, 3] [79, 78, 77, 1, 3, 4, 5, 6, 7] rfl rfl, ?_⟩
      simp only [List.map_append, List.map_cons, List.map_nil]
      exact St.gc_mk rfl (by simp only [List.set_cons_zero, List.set_cons_succ, List.cons_append, List.nil_append, σgc, AO.gc, List.map_cons, List.map_nil, List.getD_cons_zero, List.getD_cons_succ, List.map_append, gc_t, gc_row]; rfl) rfl rfl
    · rintro s rfl
      rw [List.take_of_length_le (by omega), List.take_of_length_le (by omega)]
      rfl
  rintro s rfl
  let base2 : List (Nat × E) := [(1, .t tT), (3, .t (vi t.bs.length)), (5, .t (vi t.vs.length)), (6, .ptr 0 0), (7, .ptr 1 0)]
  refine awpL_chop 1 (c1 := ?e1) (c2 := ?e2) (fun s => s = { env := (131, .t (vb false)) :: (130, .t (vi t.hs.length)) :: (129, .t (vi t.hs.length)) :: base, σ := [.cells [.loc 2 t.bs.length, x1, x2], .cells [.loc 3 t.bs.length, .loc 4 t.hs.length, .t nilT], rowB (swapT t).bs, rowB ys, rowS t.hs.reverse] }) ?hc3 ?_ ?_
  case hc3 => simp only [chop]; rfl
  · simp only [base, tT, x1, x2, rowB, go_sem, Nat.reduceEqDiff, Nat.reduceAdd, Nat.reduceSub, Nat.reduceMul, Nat.reduceLT, Nat.reduceLeDiff, Nat.reduceMod, Nat.reduceDiv, Int.reduceToNat, Int.reduceLT, Int.reduceLE, Bool.not_true, Bool.not_false, reduceIte, tw3, List.length_map]
    refine awpL_for (i := 130) (L := 129) t.hs.length (fun k s => s = { env := (130, .t (vi k)) :: (129, .t (vi t.hs.length)) :: base, σ := [.cells [.loc 2 t.bs.length, x1, x2], .cells [.loc 3 t.bs.length, .loc 4 k, .t nilT], rowB (swapT t).bs, rowB ys, rowS (t.hs.reverse.take k)] })
      ?_ ?_ ?_ ?_
    · rintro k s rfl; exact ⟨rfl, rfl⟩
    · refine ⟨_, (Sub.ghostC 1 1 2 (by decide) rfl rfl).trans (Sub.gc [0, 1, 2, 3, 4] [130, 129, 1, 3, 4, 5, 6, 7] rfl rfl), ?_⟩
      exact St.gc_mk rfl (by simp only [rowB, List.set_cons_zero, List.set_cons_succ, List.cons_append, List.nil_append, σgc, AO.gc, List.map_cons, List.map_nil, List.getD_cons_zero, List.getD_cons_succ, List.map_append, gc_t, gc_row]; rfl) rfl rfl
    · rintro k s hk rfl
      have hw : IntKind.i64.wrap ((k : Int) + 1) = ((k + 1 : Nat) : Int) := by rw [wrap_id (by omega) (by omega)]; omega
      have hb' : t.hs[t.hs.length - 1 - k]? = some t.hs[t.hs.length - 1 - k] := List.getElem?_eq_getElem (by omega)
      have hx := take_succ' (l := t.hs.reverse) (k := k) (x := t.hs[t.hs.length - 1 - k]) (by rw [List.getElem?_reverse hk, hb'])
      have hl1 : (t.hs.reverse.take k).length = k := by rw [List.length_take, List.length_reverse]; omega
      rw [hx]
      generalize t.hs.reverse.take k = L1 at *
      generalize t.hs[t.hs.length - 1 - k] = b' at *
      have w1 : IntKind.i64.wrap ((t.hs.length : Int) - 1) = (t.hs.length : Int) - 1 := wrap_id (by omega) (by omega)
      have w2 : IntKind.i64.wrap ((t.hs.length : Int) - 1 - k) = ((t.hs.length - 1 - k : Nat) : Int) := by rw [wrap_id (by omega) (by omega)]; omega
      simp only [base, tT, x1, x2, rowB, rowS, go_sem, Nat.reduceEqDiff, Nat.reduceAdd, Nat.reduceSub, Nat.reduceMul, Nat.reduceLT, Nat.reduceLeDiff, Nat.reduceMod, Nat.reduceDiv, Int.reduceToNat, Int.reduceLT, Int.reduceLE, Bool.not_true, Bool.not_false, reduceIte, tw3, List.length_map, List.getElem?_map, hb', tS, nat_neg, hl1, maxLen, hw, w1, w2]
      refine ⟨⟨by omega, by omega⟩, _, Sub.gc [0, 1, 2, 3, 4] [130, 129, 1, 3, 4, 5, 6, 7] rfl rfl, ?_⟩
      simp only [List.map_append, List.map_cons, List.map_nil]
      exact St.gc_mk rfl (by simp only [List.set_cons_zero, List.set_cons_succ, List.cons_append, List.nil_append, σgc, AO.gc, List.map_cons, List.map_nil, List.getD_cons_zero, List.getD_cons_succ, List.map_append, gc_t, gc_row]; rfl) rfl rfl
    · rintro s rfl
      rw [List.take_of_length_le (by simp)]
      rfl
  rintro s rfl
  refine awpL_chop 1 (c1 := ?f1) (c2 := ?f2) (fun s => s = { env := (151, .t (vb false)) :: (150, .t (vi t.vs.length)) :: (149, .t (vi t.vs.length)) :: base2, σ := [.cells [.loc 2 t.bs.length, x1, x2], .cells [.loc 3 t.bs.length, .loc 4 t.hs.length, .loc 5 t.vs.length], rowB (swapT t).bs, rowB ys, rowS t.hs.reverse, rowS t.vs.reverse] }) ?hc4 ?_ ?_
  case hc4 => simp only [chop]; rfl
  · simp only [base, tT, x1, x2, rowB, rowS, go_sem, Nat.reduceEqDiff, Nat.reduceAdd, Nat.reduceSub, Nat.reduceMul, Nat.reduceLT, Nat.reduceLeDiff, Nat.reduceMod, Nat.reduceDiv, Int.reduceToNat, Int.reduceLT, Int.reduceLE, Bool.not_true, Bool.not_false, reduceIte, tw3, List.length_map]
    refine awpL_for (i := 150) (L := 149) t.vs.length (fun k s => s = { env := (150, .t (vi k)) :: (149, .t (vi t.vs.length)) :: base2, σ := [.cells [.loc 2 t.bs.length, x1, x2], .cells [.loc 3 t.bs.length, .loc 4 t.hs.length, .loc 5 k], rowB (swapT t).bs, rowB ys, rowS t.hs.reverse, rowS (t.vs.reverse.take k)] })
      ?_ ?_ ?_ ?_
    · rintro k s rfl; exact ⟨rfl, rfl⟩
    · refine ⟨_, (Sub.ghostC 1 2 2 (by decide) rfl rfl).trans (Sub.gc [0, 1, 2, 3, 4, 5] [150, 149, 1, 3, 5, 6, 7] rfl rfl), ?_⟩
      exact St.gc_mk rfl (by simp only [rowB, rowS, List.set_cons_zero, List.set_cons_succ, List.cons_append, List.nil_append, σgc, AO.gc, List.map_cons, List.map_nil, List.getD_cons_zero, List.getD_cons_succ, List.map_append, gc_t, gc_row]; rfl) rfl rfl
    · rintro k s hk rfl
      have hw : IntKind.i64.wrap ((k : Int) + 1) = ((k + 1 : Nat) : Int) := by rw [wrap_id (by omega) (by omega)]; omega
      have hb' : t.vs[t.vs.length - 1 - k]? = some t.vs[t.vs.length - 1 - k] := List.getElem?_eq_getElem (by omega)
      have hx := take_succ' (l := t.vs.reverse) (k := k) (x := t.vs[t.vs.length - 1 - k]) (by rw [List.getElem?_reverse hk, hb'])
      have hl1 : (t.vs.reverse.take k).length = k := by rw [List.length_take, List.length_reverse]; omega
      rw [hx]
      generalize t.vs.reverse.take k = L1 at *
      generalize t.vs[t.vs.length - 1 - k] = b' at *
      have w1 : IntKind.i64.wrap ((t.vs.length : Int) - 1) = (t.vs.length : Int) - 1 := wrap_id (by omega) (by omega)
      have w2 : IntKind.i64.wrap ((t.vs.length : Int) - 1 - k) = ((t.vs.length - 1 - k : Nat) : Int) := by rw [wrap_id (by omega) (by omega)]; omega
      simp only [base2, tT, x1, x2, rowB, rowS, go_sem, Nat.reduceEqDiff, Nat.reduceAdd, Nat.reduceSub, Nat.reduceMul, Nat.reduceLT, Nat.reduceLeDiff, Nat.reduceMod, Nat.reduceDiv, Int.reduceToNat, Int.reduceLT, Int.reduceLE, Bool.not_true, Bool.not_false, reduceIte, tw3, List.length_map, List.getElem?_map, hb', tS, nat_neg, hl1, maxLen, hw, w1, w2]
      refine ⟨⟨by omega, by omega⟩, _, Sub.gc [0, 1, 2, 3, 4, 5] [150, 149, 1, 3, 5, 6, 7] rfl rfl, ?_⟩
      simp only [List.map_append, List.map_cons, List.map_nil]
      exact St.gc_mk rfl (by simp only [List.set_cons_zero, List.set_cons_succ, List.cons_append, List.nil_append, σgc, AO.gc, List.map_cons, List.map_nil, List.getD_cons_zero, List.getD_cons_succ, List.map_append, gc_t, gc_row]; rfl) rfl rfl
    · rintro s rfl
      rw [List.take_of_length_le (by simp)]
      rfl
  rintro s rfl
  refine awpL_chop 1 (c1 := ?g1) (c2 := ?g2) (fun s => lk s.env 1 = .t tT ∧ lk s.env 3 = .t (vi t.bs.length) ∧ lk s.env 6 = .ptr 0 0 ∧ lk s.env 7 = .ptr 1 0 ∧ s.df = [] ∧ s.k = 0 ∧ ∃ A B p q, s.σ = [.cells [.loc 2 t.bs.length, x1, x2], .cells [.loc 3 t.bs.length, .loc 4 t.hs.length, .loc 5 t.vs.length], rowB (swapT t).bs, rowB ys, rowS t.hs.reverse, rowS t.vs.reverse, A, B] ∧
      lk s.env 13 = .loc p t.bs.length ∧ lk s.env 14 = .loc q t.hs.length ∧ ((p = 6 ∧ q = 7 ∧ A = rowB t.bs ∧ B = rowS t.hs) ∨ (p = 7 ∧ q = 6 ∧ A = rowS t.hs ∧ B = rowB t.bs))) ?hc5 ?_ ?_
  case hc5 => simp only [chop]; rfl
  · simp only [base2, tT, x1, x2, rowB, rowS, go_sem, Nat.reduceEqDiff, Nat.reduceAdd, Nat.reduceSub, Nat.reduceMul, Nat.reduceLT, Nat.reduceLeDiff, Nat.reduceMod, Nat.reduceDiv, Int.reduceToNat, Int.reduceLT, Int.reduceLE, Bool.not_true, Bool.not_false, reduceIte, tw3]
    repeat' (first | refine AndL.mk ?_ ?_ | refine ⟨⟨by omega, by omega⟩, ?_⟩ | simp only [go_sem, Nat.reduceEqDiff, Nat.reduceAdd, Nat.reduceSub, Nat.reduceMul, Nat.reduceLT, Nat.reduceLeDiff, Nat.reduceMod, Nat.reduceDiv, Int.reduceToNat, Int.reduceLT, Int.reduceLE, Bool.not_true, Bool.not_false, reduceIte, List.length_map, maxLen])
    all_goals
      first
        | exact ⟨rfl, _, _, 6, 7, rfl, rfl, rfl, .inl ⟨rfl, rfl, rfl, rfl⟩⟩
        | exact ⟨rfl, _, _, 7, 6, rfl, rfl, rfl, .inr ⟨rfl, rfl, rfl, rfl⟩⟩
  rintro ⟨env2, σ2, df2, k2⟩ ⟨g1, g3, g6, g7, hdf2, hk2, A, B, p, q, hσ2, g13, g14, hAB⟩
  simp only at g1 g3 g6 g7 hσ2 hdf2 hk2 g13 g14
  subst hσ2 hdf2 hk2
  have hx := swapT_OK ht
  have hy := revT_OK ht
  have hgX : ∀ R : List AO, E.gc [] (AO.cells [.loc 2 t.bs.length, x1, x2] :: .cells [.loc 3 t.bs.length, .loc 4 t.hs.length, .loc 5 t.vs.length] :: rowB (swapT t).bs :: rowB ys :: rowS t.hs.reverse :: rowS t.vs.reverse :: R) 12 (.agg [.loc 2 t.bs.length, x1, x2]) = .t (.agg (tw3 (swapT t))) := fun R => by
    rw [E.gc]
    simp only [List.map_cons, List.map_nil]
    rw [gc_loc (n := 9) (xs := (swapT t).bs.map tB) rfl rfl (by simp [swapT])]
    rfl
  have hgY : ∀ R : List AO, E.gc [] (AO.cells [.loc 2 t.bs.length, x1, x2] :: .cells [.loc 3 t.bs.length, .loc 4 t.hs.length, .loc 5 t.vs.length] :: rowB (swapT t).bs :: rowB ys :: rowS t.hs.reverse :: rowS t.vs.reverse :: R) 12 (.agg [.loc 3 t.bs.length, .loc 4 t.hs.length, .loc 5 t.vs.length]) = .t (.agg (tw3 (revT t))) := fun R => by
    rw [E.gc]
    simp only [List.map_cons, List.map_nil]
    rw [gc_loc (n := 9) (xs := ys.map tB) rfl rfl (by simp [ys, revT]), gc_loc (n := 9) (xs := t.hs.reverse.map tS) rfl rfl (by simp), gc_loc (n := 9) (xs := t.vs.reverse.map tS) rfl rfl (by simp)]
    rfl
  have hpX : ∀ R : List AO, E.gc [] (AO.cells [.loc 2 t.bs.length, x1, x2] :: .cells [.loc 3 t.bs.length, .loc 4 t.hs.length, .loc 5 t.vs.length] :: rowB (swapT t).bs :: rowB ys :: rowS t.hs.reverse :: rowS t.vs.reverse :: R) 12 (.ptr 0 0) = .t (.ptr (.agg (tw3 (swapT t))) 0) := fun R => by
    rw [E.gc]
    simp only [pos?, List.getElem?_cons_zero, List.map_cons, List.map_nil]
    rw [gc_loc (n := 9) (xs := (swapT t).bs.map tB) rfl rfl (by simp [swapT])]
    rfl
  have hpY : ∀ R : List AO, E.gc [] (AO.cells [.loc 2 t.bs.length, x1, x2] :: .cells [.loc 3 t.bs.length, .loc 4 t.hs.length, .loc 5 t.vs.length] :: rowB (swapT t).bs :: rowB ys :: rowS t.hs.reverse :: rowS t.vs.reverse :: R) 12 (.ptr 1 0) = .t (.ptr (.agg (tw3 (revT t))) 0) := fun R => by
    rw [E.gc]
    simp only [pos?, List.getElem?_cons_zero, List.getElem?_cons_succ, List.map_cons, List.map_nil]
    rw [gc_loc (n := 9) (xs := ys.map tB) rfl rfl (by simp [ys, revT]), gc_loc (n := 9) (xs := t.hs.reverse.map tS) rfl rfl (by simp), gc_loc (n := 9) (xs := t.vs.reverse.map tS) rfl rfl (by simp)]
    rfl
  have hvX : ∀ R : List AO, List.map (E.gc [] (AO.cells [.loc 2 t.bs.length, x1, x2] :: .cells [.loc 3 t.bs.length, .loc 4 t.hs.length, .loc 5 t.vs.length] :: rowB (swapT t).bs :: rowB ys :: rowS t.hs.reverse :: rowS t.vs.reverse :: R) 12) [.agg [.loc 2 t.bs.length, x1, x2]] = [.t (.agg (tw3 (swapT t)))] := fun R => by simp only [List.map_cons, List.map_nil, hgX]
  have hvY : ∀ R : List AO, List.map (E.gc [] (AO.cells [.loc 2 t.bs.length, x1, x2] :: .cells [.loc 3 t.bs.length, .loc 4 t.hs.length, .loc 5 t.vs.length] :: rowB (swapT t).bs :: rowB ys :: rowS t.hs.reverse :: rowS t.vs.reverse :: R) 12) [.agg [.loc 3 t.bs.length, .loc 4 t.hs.length, .loc 5 t.vs.length]] = [.t (.agg (tw3 (revT t)))] := fun R => by simp only [List.map_cons, List.map_nil, hgY]
  -- what is told
  have h23 := Count_ok t
  have x23 := Count_ok (swapT t)
  have y23 := Count_ok (revT t)
  rw [Count_eq, show docCount t = (((docA t).length : Int), (0 : Int)) by simp only [docCount, hok]; rfl] at h23
  rw [Count_eq, show docCount (swapT t) = (((docA t).length : Int), (0 : Int)) by simp only [docCount, (Tw.ok_iff _).2 hx, swapT_docA ht]; rfl] at x23
  rw [Count_eq, show docCount (revT t) = (((docA t).length : Int), (0 : Int)) by simp only [docCount, (Tw.ok_iff _).2 hy, revT_count ht]; rfl] at y23
  generalize (docA t).length = N at *
  have h25 := Fewest_ok t
  have x25 := Fewest_ok (swapT t)
  have y25 := Fewest_ok (revT t)
  obtain ⟨gf, ef⟩ := rev_few ht
  rw [Fewest_eq] at h25 x25 y25
  rw [swap_few ht] at x25
  rw [ef] at y25
  clear ef
  generalize docFewest t = F at *
  have h27 := Search_ok t
  have x27 := Search_ok (swapT t)
  have y27 := Search_ok (revT t)
  obtain ⟨gs, es⟩ := rev_search ht
  rw [Search_eq] at h27 x27 y27
  rw [swap_search ht] at x27
  rw [es] at y27
  clear es
  generalize docSearch t = S at *
  have h29 := Clash_ok t
  have x29 := Clash_ok (swapT t)
  have y29 := Clash_ok (revT t)
  obtain ⟨a1, b1, e1, c1, c2, c3, _⟩ := clash_is ht
  obtain ⟨a2, b2, c4, c5, c6, c7⟩ := clash_turned ht hx (swap_best ht) c1
  obtain ⟨a3, b3, c8, c9, c10, c11⟩ := clash_turned ht hy (rev_best ht) c1
  rw [c1] at h29
  rw [c4] at x29
  rw [c8] at y29
  simp only [oneE, twoE] at h23 x23 y23 h25 x25 y25 h27 x27 y27 h29 x29 y29
  obtain ⟨f1, f2, f3⟩ := F
  obtain ⟨s1, s2, s3⟩ := S
  simp only at h25 x25 y25 h27 x27 y27
  have r1 := rsize_ok a1 (by omega)
  have r2 := rsize_ok b1 (by omega)
  have r3 := rsize_ok a2 (by omega)
  have r4 := rsize_ok b2 (by omega)
  have r5 := rsize_ok a3 (by omega)
  have r6 := rsize_ok b3 (by omega)
  have z1 := size_le6 a1 (by omega)
  have z2 := size_le6 b1 (by omega)
  have z3 := size_le6 a2 (by omega)
  have z4 := size_le6 b2 (by omega)
  have z5 := size_le6 a3 (by omega)
  have z6 := size_le6 b3 (by omega)
  have w1 : IntKind.i64.wrap (((size a1 : Nat) : Int) + (size b1 : Nat)) = ((size a1 + size b1 : Nat) : Int) := by rw [wrap_id (by omega) (by omega)]; omega
  have w2 : IntKind.i64.wrap (((size a2 : Nat) : Int) + (size b2 : Nat)) = ((size a1 + size b1 : Nat) : Int) := by rw [wrap_id (by omega) (by omega)]; omega
  have w3 : IntKind.i64.wrap (((size a3 : Nat) : Int) + (size b3 : Nat)) = ((size a1 + size b1 : Nat) : Int) := by rw [wrap_id (by omega) (by omega)]; omega
  have hmin : decide (min (min (min (min (min (a1 : Int) b1) a2) b2) a3) b3 < 0) = false := decide_eq_false (by omega)
  have tT' : tT = .ptr (.agg [.slice 6 (t.bs.map tB), .slice 2 (t.hs.map tS), .slice 2 (t.vs.map tS)]) 0 := rfl
  rw [tT'] at g1
  unfold tw3 at h23 h25 h27 h29
  simp only [go_sem, Nat.reduceEqDiff, Nat.reduceAdd, Nat.reduceSub, Nat.reduceMul, Nat.reduceLT, Nat.reduceLeDiff, Nat.reduceMod, Nat.reduceDiv, Int.reduceToNat, Int.reduceLT, Int.reduceLE, Bool.not_true, Bool.not_false, reduceIte, Int.reduceEq, Int.reduceBEq, Int.reduceBNe, Int.reduceGT, Int.reduceGE, Int.reduceNeg, Int.reduceAdd, Int.reduceSub, Nat.reduceBEq, decide_true, decide_false, undef, beq_self_eq_true, bne_self_eq_false, Bool.and_true, Bool.true_and, Bool.and_false, Bool.false_and, Bool.or_true, Bool.true_or, Bool.or_false, Bool.false_or, g1]
  refine ACallL.quiet1 h23 rfl rfl rfl ?_
  simp only [go_sem, Nat.reduceEqDiff, Nat.reduceAdd, Nat.reduceSub, Nat.reduceMul, Nat.reduceLT, Nat.reduceLeDiff, Nat.reduceMod, Nat.reduceDiv, Int.reduceToNat, Int.reduceLT, Int.reduceLE, Bool.not_true, Bool.not_false, reduceIte, Int.reduceEq, Int.reduceBEq, Int.reduceBNe, Int.reduceGT, Int.reduceGE, Int.reduceNeg, Int.reduceAdd, Int.reduceSub, Nat.reduceBEq, decide_true, decide_false, undef, beq_self_eq_true, bne_self_eq_false, Bool.and_true, Bool.true_and, Bool.and_false, Bool.false_and, Bool.or_true, Bool.true_or, Bool.or_false, Bool.false_or, g6]
  refine ACallL.quiet1 x23 rfl (hvX _) rfl ?_
  simp only [go_sem, Nat.reduceEqDiff, Nat.reduceAdd, Nat.reduceSub, Nat.reduceMul, Nat.reduceLT, Nat.reduceLeDiff, Nat.reduceMod, Nat.reduceDiv, Int.reduceToNat, Int.reduceLT, Int.reduceLE, Bool.not_true, Bool.not_false, reduceIte, Int.reduceEq, Int.reduceBEq, Int.reduceBNe, Int.reduceGT, Int.reduceGE, Int.reduceNeg, Int.reduceAdd, Int.reduceSub, Nat.reduceBEq, decide_true, decide_false, undef, beq_self_eq_true, bne_self_eq_false, Bool.and_true, Bool.true_and, Bool.and_false, Bool.false_and, Bool.or_true, Bool.true_or, Bool.or_false, Bool.false_or, g7]
  refine ACallL.quiet1 y23 rfl (hvY _) rfl ?_
  simp only [go_sem, Nat.reduceEqDiff, Nat.reduceAdd, Nat.reduceSub, Nat.reduceMul, Nat.reduceLT, Nat.reduceLeDiff, Nat.reduceMod, Nat.reduceDiv, Int.reduceToNat, Int.reduceLT, Int.reduceLE, Bool.not_true, Bool.not_false, reduceIte, Int.reduceEq, Int.reduceBEq, Int.reduceBNe, Int.reduceGT, Int.reduceGE, Int.reduceNeg, Int.reduceAdd, Int.reduceSub, Nat.reduceBEq, decide_true, decide_false, undef, beq_self_eq_true, bne_self_eq_false, Bool.and_true, Bool.true_and, Bool.and_false, Bool.false_and, Bool.or_true, Bool.true_or, Bool.or_false, Bool.false_or, g1]
  refine ACallL.quiet1 h25 rfl rfl rfl ?_
  simp only [go_sem, Nat.reduceEqDiff, Nat.reduceAdd, Nat.reduceSub, Nat.reduceMul, Nat.reduceLT, Nat.reduceLeDiff, Nat.reduceMod, Nat.reduceDiv, Int.reduceToNat, Int.reduceLT, Int.reduceLE, Bool.not_true, Bool.not_false, reduceIte, Int.reduceEq, Int.reduceBEq, Int.reduceBNe, Int.reduceGT, Int.reduceGE, Int.reduceNeg, Int.reduceAdd, Int.reduceSub, Nat.reduceBEq, decide_true, decide_false, undef, beq_self_eq_true, bne_self_eq_false, Bool.and_true, Bool.true_and, Bool.and_false, Bool.false_and, Bool.or_true, Bool.true_or, Bool.or_false, Bool.false_or, g6]
  refine ACallL.quiet1 x25 rfl (hvX _) rfl ?_
  simp only [go_sem, Nat.reduceEqDiff, Nat.reduceAdd, Nat.reduceSub, Nat.reduceMul, Nat.reduceLT, Nat.reduceLeDiff, Nat.reduceMod, Nat.reduceDiv, Int.reduceToNat, Int.reduceLT, Int.reduceLE, Bool.not_true, Bool.not_false, reduceIte, Int.reduceEq, Int.reduceBEq, Int.reduceBNe, Int.reduceGT, Int.reduceGE, Int.reduceNeg, Int.reduceAdd, Int.reduceSub, Nat.reduceBEq, decide_true, decide_false, undef, beq_self_eq_true, bne_self_eq_false, Bool.and_true, Bool.true_and, Bool.and_false, Bool.false_and, Bool.or_true, Bool.true_or, Bool.or_false, Bool.false_or, g7]
  refine ACallL.quiet1 y25 rfl (hvY _) rfl ?_
  simp only [go_sem, Nat.reduceEqDiff, Nat.reduceAdd, Nat.reduceSub, Nat.reduceMul, Nat.reduceLT, Nat.reduceLeDiff, Nat.reduceMod, Nat.reduceDiv, Int.reduceToNat, Int.reduceLT, Int.reduceLE, Bool.not_true, Bool.not_false, reduceIte, Int.reduceEq, Int.reduceBEq, Int.reduceBNe, Int.reduceGT, Int.reduceGE, Int.reduceNeg, Int.reduceAdd, Int.reduceSub, Nat.reduceBEq, decide_true, decide_false, undef, beq_self_eq_true, bne_self_eq_false, Bool.and_true, Bool.true_and, Bool.and_false, Bool.false_and, Bool.or_true, Bool.true_or, Bool.or_false, Bool.false_or, g1]
  refine ACallL.quiet1 h27 rfl rfl rfl ?_
  simp only [go_sem, Nat.reduceEqDiff, Nat.reduceAdd, Nat.reduceSub, Nat.reduceMul, Nat.reduceLT, Nat.reduceLeDiff, Nat.reduceMod, Nat.reduceDiv, Int.reduceToNat, Int.reduceLT, Int.reduceLE, Bool.not_true, Bool.not_false, reduceIte, Int.reduceEq, Int.reduceBEq, Int.reduceBNe, Int.reduceGT, Int.reduceGE, Int.reduceNeg, Int.reduceAdd, Int.reduceSub, Nat.reduceBEq, decide_true, decide_false, undef, beq_self_eq_true, bne_self_eq_false, Bool.and_true, Bool.true_and, Bool.and_false, Bool.false_and, Bool.or_true, Bool.true_or, Bool.or_false, Bool.false_or, g6]
  refine ACallL.quiet1 x27 rfl (hvX _) rfl ?_
  simp only [go_sem, Nat.reduceEqDiff, Nat.reduceAdd, Nat.reduceSub, Nat.reduceMul, Nat.reduceLT, Nat.reduceLeDiff, Nat.reduceMod, Nat.reduceDiv, Int.reduceToNat, Int.reduceLT, Int.reduceLE, Bool.not_true, Bool.not_false, reduceIte, Int.reduceEq, Int.reduceBEq, Int.reduceBNe, Int.reduceGT, Int.reduceGE, Int.reduceNeg, Int.reduceAdd, Int.reduceSub, Nat.reduceBEq, decide_true, decide_false, undef, beq_self_eq_true, bne_self_eq_false, Bool.and_true, Bool.true_and, Bool.and_false, Bool.false_and, Bool.or_true, Bool.true_or, Bool.or_false, Bool.false_or, g7]
  refine ACallL.quiet1 y27 rfl (hvY _) rfl ?_
  simp only [go_sem, Nat.reduceEqDiff, Nat.reduceAdd, Nat.reduceSub, Nat.reduceMul, Nat.reduceLT, Nat.reduceLeDiff, Nat.reduceMod, Nat.reduceDiv, Int.reduceToNat, Int.reduceLT, Int.reduceLE, Bool.not_true, Bool.not_false, reduceIte, Int.reduceEq, Int.reduceBEq, Int.reduceBNe, Int.reduceGT, Int.reduceGE, Int.reduceNeg, Int.reduceAdd, Int.reduceSub, Nat.reduceBEq, decide_true, decide_false, undef, beq_self_eq_true, bne_self_eq_false, Bool.and_true, Bool.true_and, Bool.and_false, Bool.false_and, Bool.or_true, Bool.true_or, Bool.or_false, Bool.false_or, g1]
  refine ACallL.quiet1 h29 rfl rfl rfl ?_
  simp only [go_sem, Nat.reduceEqDiff, Nat.reduceAdd, Nat.reduceSub, Nat.reduceMul, Nat.reduceLT, Nat.reduceLeDiff, Nat.reduceMod, Nat.reduceDiv, Int.reduceToNat, Int.reduceLT, Int.reduceLE, Bool.not_true, Bool.not_false, reduceIte, Int.reduceEq, Int.reduceBEq, Int.reduceBNe, Int.reduceGT, Int.reduceGE, Int.reduceNeg, Int.reduceAdd, Int.reduceSub, Nat.reduceBEq, decide_true, decide_false, undef, beq_self_eq_true, bne_self_eq_false, Bool.and_true, Bool.true_and, Bool.and_false, Bool.false_and, Bool.or_true, Bool.true_or, Bool.or_false, Bool.false_or, g6]
  refine ACallL.quiet1 x29 rfl (hvX _) rfl ?_
  simp only [go_sem, Nat.reduceEqDiff, Nat.reduceAdd, Nat.reduceSub, Nat.reduceMul, Nat.reduceLT, Nat.reduceLeDiff, Nat.reduceMod, Nat.reduceDiv, Int.reduceToNat, Int.reduceLT, Int.reduceLE, Bool.not_true, Bool.not_false, reduceIte, Int.reduceEq, Int.reduceBEq, Int.reduceBNe, Int.reduceGT, Int.reduceGE, Int.reduceNeg, Int.reduceAdd, Int.reduceSub, Nat.reduceBEq, decide_true, decide_false, undef, beq_self_eq_true, bne_self_eq_false, Bool.and_true, Bool.true_and, Bool.and_false, Bool.false_and, Bool.or_true, Bool.true_or, Bool.or_false, Bool.false_or, g7]
  refine ACallL.quiet1 y29 rfl (hvY _) rfl ?_
  simp only [go_sem, Nat.reduceEqDiff, Nat.reduceAdd, Nat.reduceSub, Nat.reduceMul, Nat.reduceLT, Nat.reduceLeDiff, Nat.reduceMod, Nat.reduceDiv, Int.reduceToNat, Int.reduceLT, Int.reduceLE, Bool.not_true, Bool.not_false, reduceIte, Int.reduceEq, Int.reduceBEq, Int.reduceBNe, Int.reduceGT, Int.reduceGE, Int.reduceNeg, Int.reduceAdd, Int.reduceSub, Nat.reduceBEq, decide_true, decide_false, undef, beq_self_eq_true, bne_self_eq_false, Bool.and_true, Bool.true_and, Bool.and_false, Bool.false_and, Bool.or_true, Bool.true_or, Bool.or_false, Bool.false_or, hmin]
  refine ACallL.quiet1 r1 rfl rfl rfl ?_
  simp only [go_sem, Nat.reduceEqDiff, Nat.reduceAdd, Nat.reduceSub, Nat.reduceMul, Nat.reduceLT, Nat.reduceLeDiff, Nat.reduceMod, Nat.reduceDiv, Int.reduceToNat, Int.reduceLT, Int.reduceLE, Bool.not_true, Bool.not_false, reduceIte, Int.reduceEq, Int.reduceBEq, Int.reduceBNe, Int.reduceGT, Int.reduceGE, Int.reduceNeg, Int.reduceAdd, Int.reduceSub, Nat.reduceBEq, decide_true, decide_false, undef, beq_self_eq_true, bne_self_eq_false, Bool.and_true, Bool.true_and, Bool.and_false, Bool.false_and, Bool.or_true, Bool.true_or, Bool.or_false, Bool.false_or]
  refine ACallL.quiet1 r2 rfl rfl rfl ?_
  simp only [go_sem, Nat.reduceEqDiff, Nat.reduceAdd, Nat.reduceSub, Nat.reduceMul, Nat.reduceLT, Nat.reduceLeDiff, Nat.reduceMod, Nat.reduceDiv, Int.reduceToNat, Int.reduceLT, Int.reduceLE, Bool.not_true, Bool.not_false, reduceIte, Int.reduceEq, Int.reduceBEq, Int.reduceBNe, Int.reduceGT, Int.reduceGE, Int.reduceNeg, Int.reduceAdd, Int.reduceSub, Nat.reduceBEq, decide_true, decide_false, undef, beq_self_eq_true, bne_self_eq_false, Bool.and_true, Bool.true_and, Bool.and_false, Bool.false_and, Bool.or_true, Bool.true_or, Bool.or_false, Bool.false_or]
  refine ACallL.quiet1 r3 rfl rfl rfl ?_
  simp only [go_sem, Nat.reduceEqDiff, Nat.reduceAdd, Nat.reduceSub, Nat.reduceMul, Nat.reduceLT, Nat.reduceLeDiff, Nat.reduceMod, Nat.reduceDiv, Int.reduceToNat, Int.reduceLT, Int.reduceLE, Bool.not_true, Bool.not_false, reduceIte, Int.reduceEq, Int.reduceBEq, Int.reduceBNe, Int.reduceGT, Int.reduceGE, Int.reduceNeg, Int.reduceAdd, Int.reduceSub, Nat.reduceBEq, decide_true, decide_false, undef, beq_self_eq_true, bne_self_eq_false, Bool.and_true, Bool.true_and, Bool.and_false, Bool.false_and, Bool.or_true, Bool.true_or, Bool.or_false, Bool.false_or]
  refine ACallL.quiet1 r4 rfl rfl rfl ?_
  simp only [go_sem, Nat.reduceEqDiff, Nat.reduceAdd, Nat.reduceSub, Nat.reduceMul, Nat.reduceLT, Nat.reduceLeDiff, Nat.reduceMod, Nat.reduceDiv, Int.reduceToNat, Int.reduceLT, Int.reduceLE, Bool.not_true, Bool.not_false, reduceIte, Int.reduceEq, Int.reduceBEq, Int.reduceBNe, Int.reduceGT, Int.reduceGE, Int.reduceNeg, Int.reduceAdd, Int.reduceSub, Nat.reduceBEq, decide_true, decide_false, undef, beq_self_eq_true, bne_self_eq_false, Bool.and_true, Bool.true_and, Bool.and_false, Bool.false_and, Bool.or_true, Bool.true_or, Bool.or_false, Bool.false_or, w1, w2]
  refine ACallL.quiet1 r1 rfl rfl rfl ?_
  simp only [go_sem, Nat.reduceEqDiff, Nat.reduceAdd, Nat.reduceSub, Nat.reduceMul, Nat.reduceLT, Nat.reduceLeDiff, Nat.reduceMod, Nat.reduceDiv, Int.reduceToNat, Int.reduceLT, Int.reduceLE, Bool.not_true, Bool.not_false, reduceIte, Int.reduceEq, Int.reduceBEq, Int.reduceBNe, Int.reduceGT, Int.reduceGE, Int.reduceNeg, Int.reduceAdd, Int.reduceSub, Nat.reduceBEq, decide_true, decide_false, undef, beq_self_eq_true, bne_self_eq_false, Bool.and_true, Bool.true_and, Bool.and_false, Bool.false_and, Bool.or_true, Bool.true_or, Bool.or_false, Bool.false_or]
  refine ACallL.quiet1 r2 rfl rfl rfl ?_
  simp only [go_sem, Nat.reduceEqDiff, Nat.reduceAdd, Nat.reduceSub, Nat.reduceMul, Nat.reduceLT, Nat.reduceLeDiff, Nat.reduceMod, Nat.reduceDiv, Int.reduceToNat, Int.reduceLT, Int.reduceLE, Bool.not_true, Bool.not_false, reduceIte, Int.reduceEq, Int.reduceBEq, Int.reduceBNe, Int.reduceGT, Int.reduceGE, Int.reduceNeg, Int.reduceAdd, Int.reduceSub, Nat.reduceBEq, decide_true, decide_false, undef, beq_self_eq_true, bne_self_eq_false, Bool.and_true, Bool.true_and, Bool.and_false, Bool.false_and, Bool.or_true, Bool.true_or, Bool.or_false, Bool.false_or]
  refine ACallL.quiet1 r5 rfl rfl rfl ?_
  simp only [go_sem, Nat.reduceEqDiff, Nat.reduceAdd, Nat.reduceSub, Nat.reduceMul, Nat.reduceLT, Nat.reduceLeDiff, Nat.reduceMod, Nat.reduceDiv, Int.reduceToNat, Int.reduceLT, Int.reduceLE, Bool.not_true, Bool.not_false, reduceIte, Int.reduceEq, Int.reduceBEq, Int.reduceBNe, Int.reduceGT, Int.reduceGE, Int.reduceNeg, Int.reduceAdd, Int.reduceSub, Nat.reduceBEq, decide_true, decide_false, undef, beq_self_eq_true, bne_self_eq_false, Bool.and_true, Bool.true_and, Bool.and_false, Bool.false_and, Bool.or_true, Bool.true_or, Bool.or_false, Bool.false_or]
  refine ACallL.quiet1 r6 rfl rfl rfl ?_
  simp only [go_sem, Nat.reduceEqDiff, Nat.reduceAdd, Nat.reduceSub, Nat.reduceMul, Nat.reduceLT, Nat.reduceLeDiff, Nat.reduceMod, Nat.reduceDiv, Int.reduceToNat, Int.reduceLT, Int.reduceLE, Bool.not_true, Bool.not_false, reduceIte, Int.reduceEq, Int.reduceBEq, Int.reduceBNe, Int.reduceGT, Int.reduceGE, Int.reduceNeg, Int.reduceAdd, Int.reduceSub, Nat.reduceBEq, decide_true, decide_false, undef, beq_self_eq_true, bne_self_eq_false, Bool.and_true, Bool.true_and, Bool.and_false, Bool.false_and, Bool.or_true, Bool.true_or, Bool.or_false, Bool.false_or, w1, w3, g3]
  have hlT : ∀ E0 : AO, True := fun _ => trivial
  have gcN : ∀ (E1 E2 E3 E4 E5 E6 : AO), E.gc [] [E1, E2, E3, E4, E5, E6, A, B] 12 (.loc p t.bs.length) = .t (.slice 6 (t.bs.map tB)) ∧ E.gc [] [E1, E2, E3, E4, E5, E6, A, B] 12 (.loc q t.hs.length) = .t (.slice 2 (t.hs.map tS)) := fun _ _ _ _ _ _ => by
    rcases hAB with ⟨rfl, rfl, rfl, rfl⟩ | ⟨rfl, rfl, rfl, rfl⟩
    · exact ⟨gc_loc rfl rfl (by simp), gc_loc rfl rfl (by simp)⟩
    · exact ⟨gc_loc rfl rfl (by simp), gc_loc rfl rfl (by simp)⟩
  refine awpL_for (i := 367) (L := 366) t.bs.length (fun k s => s = { env := [(367, .t (vi k)), (366, .t (vi t.bs.length)), (1, .t tT), (3, .t (vi t.bs.length)), (6, .t (.ptr (.agg (tw3 (swapT t))) 0)), (7, .t (.ptr (.agg (tw3 (revT t))) 0)), (13, .t (.slice 6 (t.bs.map tB))), (14, .t (.slice 2 (t.hs.map tS)))], σ := [] })
    ?_ ?_ ?_ ?_
  · rintro k s rfl; exact ⟨rfl, rfl⟩
  · refine ⟨_, Sub.gc [] [367, 366, 1, 3, 6, 7, 13, 14] rfl rfl, St.gc_mk ?_ rfl rfl rfl⟩
    simp only [List.map_cons, List.map_nil, lk, Nat.reduceEqDiff, reduceIte, g1, g3, g6, g7, g13, g14, hpX, hpY, gcN, gc_t]
    rfl
  · rintro k s hk rfl
    have hw : IntKind.i64.wrap ((k : Int) + 1) = ((k + 1 : Nat) : Int) := by rw [wrap_id (by omega) (by omega)]; omega
    have w7 : IntKind.i64.wrap ((t.bs.length : Int) - 1) = (t.bs.length : Int) - 1 := wrap_id (by omega) (by omega)
    have w8 : IntKind.i64.wrap ((t.bs.length : Int) - 1 - k) = ((t.bs.length - 1 - k : Nat) : Int) := by rw [wrap_id (by omega) (by omega)]; omega
    have h17 := Kept_ok t k (by omega)
    have x17 := Kept_ok (swapT t) k (by simp [swapT]; omega)
    have y17 := Kept_ok (revT t) ((t.bs.length - 1 - k : Nat) : Int) (by simp [revT]; omega)
    rw [Kept_eq] at h17 x17 y17
    rw [swap_kept ht] at x17
    rw [rev_kept ht hk] at y17
    generalize docKept t k = K at *
    obtain ⟨⟨k1, k2⟩, k3⟩ := K
    simp only [spanE, tS] at h17 x17 y17
    have hb : t.bs[k]? = some t.bs[k] := List.getElem?_eq_getElem hk
    generalize t.bs[k] = b at *
    have hlt : (k : Int) < t.bs.length := by omega
    simp only [tT', go_sem, Nat.reduceEqDiff, Nat.reduceAdd, Nat.reduceSub, Nat.reduceMul, Nat.reduceLT, Nat.reduceLeDiff, Nat.reduceMod, Nat.reduceDiv, Int.reduceToNat, Int.reduceLT, Int.reduceLE, Bool.not_true, Bool.not_false, reduceIte, Int.reduceEq, Int.reduceBEq, Int.reduceBNe, Int.reduceGT, Int.reduceGE, Int.reduceNeg, Int.reduceAdd, Int.reduceSub, Nat.reduceBEq, decide_true, decide_false, undef, beq_self_eq_true, bne_self_eq_false, Bool.and_true, Bool.true_and, Bool.and_false, Bool.false_and, Bool.or_true, Bool.true_or, Bool.or_false, Bool.false_or, tw3] at h17 x17 y17 ⊢
    refine ACallL.quiet1 h17 rfl rfl rfl ?_
    simp only [go_sem, Nat.reduceEqDiff, Nat.reduceAdd, Nat.reduceSub, Nat.reduceMul, Nat.reduceLT, Nat.reduceLeDiff, Nat.reduceMod, Nat.reduceDiv, Int.reduceToNat, Int.reduceLT, Int.reduceLE, Bool.not_true, Bool.not_false, reduceIte, Int.reduceEq, Int.reduceBEq, Int.reduceBNe, Int.reduceGT, Int.reduceGE, Int.reduceNeg, Int.reduceAdd, Int.reduceSub, Nat.reduceBEq, decide_true, decide_false, undef, beq_self_eq_true, bne_self_eq_false, Bool.and_true, Bool.true_and, Bool.and_false, Bool.false_and, Bool.or_true, Bool.true_or, Bool.or_false, Bool.false_or]
    refine ACallL.quiet1 x17 rfl rfl rfl ?_
    simp only [go_sem, Nat.reduceEqDiff, Nat.reduceAdd, Nat.reduceSub, Nat.reduceMul, Nat.reduceLT, Nat.reduceLeDiff, Nat.reduceMod, Nat.reduceDiv, Int.reduceToNat, Int.reduceLT, Int.reduceLE, Bool.not_true, Bool.not_false, reduceIte, Int.reduceEq, Int.reduceBEq, Int.reduceBNe, Int.reduceGT, Int.reduceGE, Int.reduceNeg, Int.reduceAdd, Int.reduceSub, Nat.reduceBEq, decide_true, decide_false, undef, beq_self_eq_true, bne_self_eq_false, Bool.and_true, Bool.true_and, Bool.and_false, Bool.false_and, Bool.or_true, Bool.true_or, Bool.or_false, Bool.false_or, w7, w8]
    refine ACallL.quiet1 y17 rfl rfl rfl ?_
    simp only [go_sem, Nat.reduceEqDiff, Nat.reduceAdd, Nat.reduceSub, Nat.reduceMul, Nat.reduceLT, Nat.reduceLeDiff, Nat.reduceMod, Nat.reduceDiv, Int.reduceToNat, Int.reduceLT, Int.reduceLE, Bool.not_true, Bool.not_false, reduceIte, Int.reduceEq, Int.reduceBEq, Int.reduceBNe, Int.reduceGT, Int.reduceGE, Int.reduceNeg, Int.reduceAdd, Int.reduceSub, Nat.reduceBEq, decide_true, decide_false, undef, beq_self_eq_true, bne_self_eq_false, Bool.and_true, Bool.true_and, Bool.and_false, Bool.false_and, Bool.or_true, Bool.true_or, Bool.or_false, Bool.false_or, toKey2, kEq2, List.getElem?_map, hb, tB, toKeyB, kEqB, nat_neg, hw, Bool.not_true]
    exact ⟨_, Sub.gc [] [367, 366, 1, 3, 6, 7, 13, 14] rfl rfl, rfl⟩
  · rintro s rfl
    simp only [tT', go_sem, Nat.reduceEqDiff, Nat.reduceAdd, Nat.reduceSub, Nat.reduceMul, Nat.reduceLT, Nat.reduceLeDiff, Nat.reduceMod, Nat.reduceDiv, Int.reduceToNat, Int.reduceLT, Int.reduceLE, Bool.not_true, Bool.not_false, reduceIte, Int.reduceEq, Int.reduceBEq, Int.reduceBNe, Int.reduceGT, Int.reduceGE, Int.reduceNeg, Int.reduceAdd, Int.reduceSub, Nat.reduceBEq, decide_true, decide_false, undef, beq_self_eq_true, bne_self_eq_false, Bool.and_true, Bool.true_and, Bool.and_false, Bool.false_and, Bool.or_true, Bool.true_or, Bool.or_false, Bool.false_or, List.length_map]
    refine awpL_for (i := 424) (L := 423) t.hs.length (fun k s => s = { env := [(424, .t (vi k)), (423, .t (vi t.hs.length)), (1, .t tT), (14, .t (.slice 2 (t.hs.map tS)))], σ := [] })
      ?_ ⟨_, Sub.gc [] [424, 423, 1, 14] rfl rfl, rfl⟩ ?_ ?_
    · rintro k s rfl; exact ⟨rfl, rfl⟩
    · rintro k s hk rfl
      have hw : IntKind.i64.wrap ((k : Int) + 1) = ((k + 1 : Nat) : Int) := by rw [wrap_id (by omega) (by omega)]; omega
      have hb : t.hs[k]? = some t.hs[k] := List.getElem?_eq_getElem hk
      generalize t.hs[k] = b at *
      simp only [tT', go_sem, Nat.reduceEqDiff, Nat.reduceAdd, Nat.reduceSub, Nat.reduceMul, Nat.reduceLT, Nat.reduceLeDiff, Nat.reduceMod, Nat.reduceDiv, Int.reduceToNat, Int.reduceLT, Int.reduceLE, Bool.not_true, Bool.not_false, reduceIte, Int.reduceEq, Int.reduceBEq, Int.reduceBNe, Int.reduceGT, Int.reduceGE, Int.reduceNeg, Int.reduceAdd, Int.reduceSub, Nat.reduceBEq, decide_true, decide_false, undef, beq_self_eq_true, bne_self_eq_false, Bool.and_true, Bool.true_and, Bool.and_false, Bool.false_and, Bool.or_true, Bool.true_or, Bool.or_false, Bool.false_or, toKey2, kEq2, List.getElem?_map, hb, tS, nat_neg, hw, Bool.not_true]
      exact ⟨_, Sub.gc [] [424, 423, 1, 14] rfl rfl, rfl⟩
    · rintro s rfl
      simp only [go_sem, Nat.reduceEqDiff, Nat.reduceAdd, Nat.reduceSub, Nat.reduceMul, Nat.reduceLT, Nat.reduceLeDiff, Nat.reduceMod, Nat.reduceDiv, Int.reduceToNat, Int.reduceLT, Int.reduceLE, Bool.not_true, Bool.not_false, reduceIte, Int.reduceEq, Int.reduceBEq, Int.reduceBNe, Int.reduceGT, Int.reduceGE, Int.reduceNeg, Int.reduceAdd, Int.reduceSub, Nat.reduceBEq, decide_true, decide_false, undef, beq_self_eq_true, bne_self_eq_false, Bool.and_true, Bool.true_and, Bool.and_false, Bool.false_and, Bool.or_true, Bool.true_or, Bool.or_false, Bool.false_or]
      refine ACallL.quiet1 awake_ok rfl rfl rfl ?_
      simp only [go_sem, Nat.reduceEqDiff, Nat.reduceAdd, Nat.reduceSub, Nat.reduceMul, Nat.reduceLT, Nat.reduceLeDiff, Nat.reduceMod, Nat.reduceDiv, Int.reduceToNat, Int.reduceLT, Int.reduceLE, Bool.not_true, Bool.not_false, reduceIte, Int.reduceEq, Int.reduceBEq, Int.reduceBNe, Int.reduceGT, Int.reduceGE, Int.reduceNeg, Int.reduceAdd, Int.reduceSub, Nat.reduceBEq, decide_true, decide_false, undef, beq_self_eq_true, bne_self_eq_false, Bool.and_true, Bool.true_and, Bool.and_false, Bool.false_and, Bool.or_true, Bool.true_or, Bool.or_false, Bool.false_or]
      exact finL_ret [] ⟨rfl, rfl, rfl, rfl, _, rfl, res_mk rfl⟩
end Go.Proofs.Yticdacdflemoiaa
