/- Proved here: laws that the statements need (TwC511, TwX9). No conditions but those that each law states. -/
import Derived.Test.YticdacdflemoiaaLF
import Derived.Test.YticdacdflemoiaaFL
import Derived.Test.YticdacdflemoiaaLO

set_option linter.unusedSimpArgs false
set_option linter.unusedVariables false

/- Compiled code of functions, printed by program; each is checked to be the program's. No conditions. -/
namespace Go.Proofs.Yticdacdflemoiaa
open Go Go.Ab
def c11 : AC :=
 .seq (.reg [⟨(some 3), none, .box (.tmp 0)⟩,
    ⟨(some 6), none, .mov (.lit (.bool false))⟩])
 (.seq (.seq (.reg [⟨(some 39), none, .load true 3 (.tmp 3)⟩,
     ⟨(some 40), none, .call (.fn 37) [(.tmp 39)]⟩,
     ⟨(some 41), none, .un .not (.tmp 40)⟩])
  (.cond (.tmp 41) (.seq (.reg [⟨(some 42), none, .call (.fn 14) []⟩,
      ⟨(some 6), none, .mov (.tmp 42)⟩])
   (.ret))
    (.skip)))
 (.seq (.reg [⟨(some 43), none, .load true 3 (.tmp 3)⟩,
    ⟨(some 7), none, .alloc [(.slice none 0 0), (.slice none 0 0), (.slice none 0 0)]⟩,
    ⟨none, none, .store 3 (.tmp 7) (.tmp 43)⟩])
 (.seq (.draw (.step ⟨(some 45), none, .faddr 1 (.tmp 3)⟩ (
    .step ⟨(some 46), none, .load false 1 (.tmp 45)⟩ (
    .step ⟨(some 49), none, .faddr 2 (.tmp 3)⟩ (
    .step ⟨(some 50), none, .load false 1 (.tmp 49)⟩ (
    .step ⟨(some 53), none, .faddr 0 (.tmp 3)⟩ (
    .step ⟨(some 54), none, .load false 1 (.tmp 53)⟩ (
    .ev ⟨(some 44), none, .bslice 2 (.agg #[(.int .i64 0), (.int .i64 0)]) 0 []⟩ [⟨(some 54), none, .load false 1 (.tmp 53)⟩, ⟨(some 53), none, .faddr 0 (.tmp 3)⟩, ⟨(some 50), none, .load false 1 (.tmp 49)⟩, ⟨(some 49), none, .faddr 2 (.tmp 3)⟩, ⟨(some 46), none, .load false 1 (.tmp 45)⟩, ⟨(some 45), none, .faddr 1 (.tmp 3)⟩] (
    .ev ⟨(some 47), none, .app 2 16 (.tmp 44) (.tmp 46)⟩ [⟨(some 54), none, .load false 1 (.tmp 53)⟩, ⟨(some 53), none, .faddr 0 (.tmp 3)⟩, ⟨(some 50), none, .load false 1 (.tmp 49)⟩, ⟨(some 49), none, .faddr 2 (.tmp 3)⟩, ⟨(some 45), none, .faddr 1 (.tmp 3)⟩] (
     .step ⟨(some 56), none, .faddr 1 (.tmp 7)⟩ (
      .ev ⟨(some 48), none, .bslice 2 (.agg #[(.int .i64 0), (.int .i64 0)]) 0 []⟩ [⟨(some 56), none, .faddr 1 (.tmp 7)⟩, ⟨(some 54), none, .load false 1 (.tmp 53)⟩, ⟨(some 53), none, .faddr 0 (.tmp 3)⟩, ⟨(some 50), none, .load false 1 (.tmp 49)⟩, ⟨(some 49), none, .faddr 2 (.tmp 3)⟩, ⟨(some 46), none, .load false 1 (.tmp 45)⟩, ⟨(some 45), none, .faddr 1 (.tmp 3)⟩] (
      .ev ⟨(some 51), none, .app 2 16 (.tmp 48) (.tmp 50)⟩ [⟨(some 56), none, .faddr 1 (.tmp 7)⟩, ⟨(some 54), none, .load false 1 (.tmp 53)⟩, ⟨(some 53), none, .faddr 0 (.tmp 3)⟩, ⟨(some 49), none, .faddr 2 (.tmp 3)⟩, ⟨(some 46), none, .load false 1 (.tmp 45)⟩, ⟨(some 45), none, .faddr 1 (.tmp 3)⟩] (
       .ev ⟨(some 52), none, .bslice 6 (.agg #[(.int .i64 0), (.int .i64 0), (.int .i64 0), (.int .i64 0), (.int .i64 0), (.int .i64 0)]) 0 []⟩ [⟨(some 56), none, .faddr 1 (.tmp 7)⟩, ⟨(some 54), none, .load false 1 (.tmp 53)⟩, ⟨(some 53), none, .faddr 0 (.tmp 3)⟩, ⟨(some 50), none, .load false 1 (.tmp 49)⟩, ⟨(some 49), none, .faddr 2 (.tmp 3)⟩, ⟨(some 46), none, .load false 1 (.tmp 45)⟩, ⟨(some 45), none, .faddr 1 (.tmp 3)⟩] (
        .ev ⟨(some 55), none, .app 6 48 (.tmp 52) (.tmp 54)⟩ [⟨(some 56), none, .faddr 1 (.tmp 7)⟩, ⟨(some 53), none, .faddr 0 (.tmp 3)⟩, ⟨(some 50), none, .load false 1 (.tmp 49)⟩, ⟨(some 49), none, .faddr 2 (.tmp 3)⟩, ⟨(some 46), none, .load false 1 (.tmp 45)⟩, ⟨(some 45), none, .faddr 1 (.tmp 3)⟩] (
         .ev ⟨none, none, .store 1 (.tmp 56) (.tmp 47)⟩ [⟨(some 54), none, .load false 1 (.tmp 53)⟩, ⟨(some 53), none, .faddr 0 (.tmp 3)⟩, ⟨(some 50), none, .load false 1 (.tmp 49)⟩, ⟨(some 49), none, .faddr 2 (.tmp 3)⟩] (
          .step ⟨(some 57), none, .faddr 2 (.tmp 7)⟩ (
           .ev ⟨none, none, .store 1 (.tmp 57) (.tmp 51)⟩ [⟨(some 54), none, .load false 1 (.tmp 53)⟩, ⟨(some 53), none, .faddr 0 (.tmp 3)⟩] (
           .step ⟨(some 58), none, .faddr 0 (.tmp 7)⟩ (
            .ev ⟨none, none, .store 1 (.tmp 58) (.tmp 55)⟩ [] (
            .done)
            (.stop)))
           (.stop)))
          (.stop))
         (.stop))
        (.stop))
       (.ev ⟨(some 52), none, .bslice 6 (.agg #[(.int .i64 0), (.int .i64 0), (.int .i64 0), (.int .i64 0), (.int .i64 0), (.int .i64 0)]) 0 []⟩ [⟨(some 56), none, .faddr 1 (.tmp 7)⟩, ⟨(some 54), none, .load false 1 (.tmp 53)⟩, ⟨(some 53), none, .faddr 0 (.tmp 3)⟩, ⟨(some 50), none, .load false 1 (.tmp 49)⟩, ⟨(some 49), none, .faddr 2 (.tmp 3)⟩, ⟨(some 46), none, .load false 1 (.tmp 45)⟩, ⟨(some 45), none, .faddr 1 (.tmp 3)⟩] (
       .ev ⟨(some 51), none, .app 2 16 (.tmp 48) (.tmp 50)⟩ [⟨(some 56), none, .faddr 1 (.tmp 7)⟩, ⟨(some 54), none, .load false 1 (.tmp 53)⟩, ⟨(some 53), none, .faddr 0 (.tmp 3)⟩, ⟨(some 49), none, .faddr 2 (.tmp 3)⟩, ⟨(some 46), none, .load false 1 (.tmp 45)⟩, ⟨(some 45), none, .faddr 1 (.tmp 3)⟩] (
        .ev ⟨(some 55), none, .app 6 48 (.tmp 52) (.tmp 54)⟩ [⟨(some 56), none, .faddr 1 (.tmp 7)⟩, ⟨(some 53), none, .faddr 0 (.tmp 3)⟩, ⟨(some 50), none, .load false 1 (.tmp 49)⟩, ⟨(some 49), none, .faddr 2 (.tmp 3)⟩, ⟨(some 46), none, .load false 1 (.tmp 45)⟩, ⟨(some 45), none, .faddr 1 (.tmp 3)⟩] (
         .ev ⟨none, none, .store 1 (.tmp 56) (.tmp 47)⟩ [⟨(some 54), none, .load false 1 (.tmp 53)⟩, ⟨(some 53), none, .faddr 0 (.tmp 3)⟩, ⟨(some 50), none, .load false 1 (.tmp 49)⟩, ⟨(some 49), none, .faddr 2 (.tmp 3)⟩] (
          .step ⟨(some 57), none, .faddr 2 (.tmp 7)⟩ (
           .ev ⟨none, none, .store 1 (.tmp 57) (.tmp 51)⟩ [⟨(some 54), none, .load false 1 (.tmp 53)⟩, ⟨(some 53), none, .faddr 0 (.tmp 3)⟩] (
           .step ⟨(some 58), none, .faddr 0 (.tmp 7)⟩ (
            .ev ⟨none, none, .store 1 (.tmp 58) (.tmp 55)⟩ [] (
            .done)
            (.stop)))
           (.stop)))
          (.stop))
         (.stop))
        (.stop))
       (.stop)))
      (.ev ⟨(some 52), none, .bslice 6 (.agg #[(.int .i64 0), (.int .i64 0), (.int .i64 0), (.int .i64 0), (.int .i64 0), (.int .i64 0)]) 0 []⟩ [⟨(some 56), none, .faddr 1 (.tmp 7)⟩, ⟨(some 54), none, .load false 1 (.tmp 53)⟩, ⟨(some 53), none, .faddr 0 (.tmp 3)⟩, ⟨(some 50), none, .load false 1 (.tmp 49)⟩, ⟨(some 49), none, .faddr 2 (.tmp 3)⟩, ⟨(some 46), none, .load false 1 (.tmp 45)⟩, ⟨(some 45), none, .faddr 1 (.tmp 3)⟩] (
      .ev ⟨(some 48), none, .bslice 2 (.agg #[(.int .i64 0), (.int .i64 0)]) 0 []⟩ [⟨(some 56), none, .faddr 1 (.tmp 7)⟩, ⟨(some 54), none, .load false 1 (.tmp 53)⟩, ⟨(some 53), none, .faddr 0 (.tmp 3)⟩, ⟨(some 50), none, .load false 1 (.tmp 49)⟩, ⟨(some 49), none, .faddr 2 (.tmp 3)⟩, ⟨(some 46), none, .load false 1 (.tmp 45)⟩, ⟨(some 45), none, .faddr 1 (.tmp 3)⟩] (
       .ev ⟨(some 51), none, .app 2 16 (.tmp 48) (.tmp 50)⟩ [⟨(some 56), none, .faddr 1 (.tmp 7)⟩, ⟨(some 54), none, .load false 1 (.tmp 53)⟩, ⟨(some 53), none, .faddr 0 (.tmp 3)⟩, ⟨(some 49), none, .faddr 2 (.tmp 3)⟩, ⟨(some 46), none, .load false 1 (.tmp 45)⟩, ⟨(some 45), none, .faddr 1 (.tmp 3)⟩] (
        .ev ⟨(some 55), none, .app 6 48 (.tmp 52) (.tmp 54)⟩ [⟨(some 56), none, .faddr 1 (.tmp 7)⟩, ⟨(some 53), none, .faddr 0 (.tmp 3)⟩, ⟨(some 50), none, .load false 1 (.tmp 49)⟩, ⟨(some 49), none, .faddr 2 (.tmp 3)⟩, ⟨(some 46), none, .load false 1 (.tmp 45)⟩, ⟨(some 45), none, .faddr 1 (.tmp 3)⟩] (
         .ev ⟨none, none, .store 1 (.tmp 56) (.tmp 47)⟩ [⟨(some 54), none, .load false 1 (.tmp 53)⟩, ⟨(some 53), none, .faddr 0 (.tmp 3)⟩, ⟨(some 50), none, .load false 1 (.tmp 49)⟩, ⟨(some 49), none, .faddr 2 (.tmp 3)⟩] (
          .step ⟨(some 57), none, .faddr 2 (.tmp 7)⟩ (
           .ev ⟨none, none, .store 1 (.tmp 57) (.tmp 51)⟩ [⟨(some 54), none, .load false 1 (.tmp 53)⟩, ⟨(some 53), none, .faddr 0 (.tmp 3)⟩] (
           .step ⟨(some 58), none, .faddr 0 (.tmp 7)⟩ (
            .ev ⟨none, none, .store 1 (.tmp 58) (.tmp 55)⟩ [] (
            .done)
            (.stop)))
           (.stop)))
          (.stop))
         (.stop))
        (.stop))
       (.stop))
      (.stop))))
     (.ev ⟨(some 48), none, .bslice 2 (.agg #[(.int .i64 0), (.int .i64 0)]) 0 []⟩ [⟨(some 54), none, .load false 1 (.tmp 53)⟩, ⟨(some 53), none, .faddr 0 (.tmp 3)⟩, ⟨(some 50), none, .load false 1 (.tmp 49)⟩, ⟨(some 49), none, .faddr 2 (.tmp 3)⟩, ⟨(some 46), none, .load false 1 (.tmp 45)⟩, ⟨(some 45), none, .faddr 1 (.tmp 3)⟩] (
     .ev ⟨(some 47), none, .app 2 16 (.tmp 44) (.tmp 46)⟩ [⟨(some 54), none, .load false 1 (.tmp 53)⟩, ⟨(some 53), none, .faddr 0 (.tmp 3)⟩, ⟨(some 50), none, .load false 1 (.tmp 49)⟩, ⟨(some 49), none, .faddr 2 (.tmp 3)⟩, ⟨(some 45), none, .faddr 1 (.tmp 3)⟩] (
      .step ⟨(some 56), none, .faddr 1 (.tmp 7)⟩ (
       .ev ⟨(some 51), none, .app 2 16 (.tmp 48) (.tmp 50)⟩ [⟨(some 56), none, .faddr 1 (.tmp 7)⟩, ⟨(some 54), none, .load false 1 (.tmp 53)⟩, ⟨(some 53), none, .faddr 0 (.tmp 3)⟩, ⟨(some 49), none, .faddr 2 (.tmp 3)⟩, ⟨(some 46), none, .load false 1 (.tmp 45)⟩, ⟨(some 45), none, .faddr 1 (.tmp 3)⟩] (
       .ev ⟨(some 52), none, .bslice 6 (.agg #[(.int .i64 0), (.int .i64 0), (.int .i64 0), (.int .i64 0), (.int .i64 0), (.int .i64 0)]) 0 []⟩ [⟨(some 56), none, .faddr 1 (.tmp 7)⟩, ⟨(some 54), none, .load false 1 (.tmp 53)⟩, ⟨(some 53), none, .faddr 0 (.tmp 3)⟩, ⟨(some 50), none, .load false 1 (.tmp 49)⟩, ⟨(some 49), none, .faddr 2 (.tmp 3)⟩, ⟨(some 46), none, .load false 1 (.tmp 45)⟩, ⟨(some 45), none, .faddr 1 (.tmp 3)⟩] (
        .ev ⟨(some 55), none, .app 6 48 (.tmp 52) (.tmp 54)⟩ [⟨(some 56), none, .faddr 1 (.tmp 7)⟩, ⟨(some 53), none, .faddr 0 (.tmp 3)⟩, ⟨(some 50), none, .load false 1 (.tmp 49)⟩, ⟨(some 49), none, .faddr 2 (.tmp 3)⟩, ⟨(some 46), none, .load false 1 (.tmp 45)⟩, ⟨(some 45), none, .faddr 1 (.tmp 3)⟩] (
         .ev ⟨none, none, .store 1 (.tmp 56) (.tmp 47)⟩ [⟨(some 54), none, .load false 1 (.tmp 53)⟩, ⟨(some 53), none, .faddr 0 (.tmp 3)⟩, ⟨(some 50), none, .load false 1 (.tmp 49)⟩, ⟨(some 49), none, .faddr 2 (.tmp 3)⟩] (
          .step ⟨(some 57), none, .faddr 2 (.tmp 7)⟩ (
           .ev ⟨none, none, .store 1 (.tmp 57) (.tmp 51)⟩ [⟨(some 54), none, .load false 1 (.tmp 53)⟩, ⟨(some 53), none, .faddr 0 (.tmp 3)⟩] (
           .step ⟨(some 58), none, .faddr 0 (.tmp 7)⟩ (
            .ev ⟨none, none, .store 1 (.tmp 58) (.tmp 55)⟩ [] (
            .done)
            (.stop)))
           (.stop)))
          (.stop))
         (.stop))
        (.stop))
       (.ev ⟨(some 52), none, .bslice 6 (.agg #[(.int .i64 0), (.int .i64 0), (.int .i64 0), (.int .i64 0), (.int .i64 0), (.int .i64 0)]) 0 []⟩ [⟨(some 56), none, .faddr 1 (.tmp 7)⟩, ⟨(some 54), none, .load false 1 (.tmp 53)⟩, ⟨(some 53), none, .faddr 0 (.tmp 3)⟩, ⟨(some 50), none, .load false 1 (.tmp 49)⟩, ⟨(some 49), none, .faddr 2 (.tmp 3)⟩, ⟨(some 46), none, .load false 1 (.tmp 45)⟩, ⟨(some 45), none, .faddr 1 (.tmp 3)⟩] (
       .ev ⟨(some 51), none, .app 2 16 (.tmp 48) (.tmp 50)⟩ [⟨(some 56), none, .faddr 1 (.tmp 7)⟩, ⟨(some 54), none, .load false 1 (.tmp 53)⟩, ⟨(some 53), none, .faddr 0 (.tmp 3)⟩, ⟨(some 49), none, .faddr 2 (.tmp 3)⟩, ⟨(some 46), none, .load false 1 (.tmp 45)⟩, ⟨(some 45), none, .faddr 1 (.tmp 3)⟩] (
        .ev ⟨(some 55), none, .app 6 48 (.tmp 52) (.tmp 54)⟩ [⟨(some 56), none, .faddr 1 (.tmp 7)⟩, ⟨(some 53), none, .faddr 0 (.tmp 3)⟩, ⟨(some 50), none, .load false 1 (.tmp 49)⟩, ⟨(some 49), none, .faddr 2 (.tmp 3)⟩, ⟨(some 46), none, .load false 1 (.tmp 45)⟩, ⟨(some 45), none, .faddr 1 (.tmp 3)⟩] (
         .ev ⟨none, none, .store 1 (.tmp 56) (.tmp 47)⟩ [⟨(some 54), none, .load false 1 (.tmp 53)⟩, ⟨(some 53), none, .faddr 0 (.tmp 3)⟩, ⟨(some 50), none, .load false 1 (.tmp 49)⟩, ⟨(some 49), none, .faddr 2 (.tmp 3)⟩] (
          .step ⟨(some 57), none, .faddr 2 (.tmp 7)⟩ (
           .ev ⟨none, none, .store 1 (.tmp 57) (.tmp 51)⟩ [⟨(some 54), none, .load false 1 (.tmp 53)⟩, ⟨(some 53), none, .faddr 0 (.tmp 3)⟩] (
           .step ⟨(some 58), none, .faddr 0 (.tmp 7)⟩ (
            .ev ⟨none, none, .store 1 (.tmp 58) (.tmp 55)⟩ [] (
            .done)
            (.stop)))
           (.stop)))
          (.stop))
         (.stop))
        (.stop))
       (.stop))))
      (.ev ⟨(some 52), none, .bslice 6 (.agg #[(.int .i64 0), (.int .i64 0), (.int .i64 0), (.int .i64 0), (.int .i64 0), (.int .i64 0)]) 0 []⟩ [⟨(some 54), none, .load false 1 (.tmp 53)⟩, ⟨(some 53), none, .faddr 0 (.tmp 3)⟩, ⟨(some 50), none, .load false 1 (.tmp 49)⟩, ⟨(some 49), none, .faddr 2 (.tmp 3)⟩, ⟨(some 46), none, .load false 1 (.tmp 45)⟩, ⟨(some 45), none, .faddr 1 (.tmp 3)⟩] (
      .ev ⟨(some 47), none, .app 2 16 (.tmp 44) (.tmp 46)⟩ [⟨(some 54), none, .load false 1 (.tmp 53)⟩, ⟨(some 53), none, .faddr 0 (.tmp 3)⟩, ⟨(some 50), none, .load false 1 (.tmp 49)⟩, ⟨(some 49), none, .faddr 2 (.tmp 3)⟩, ⟨(some 45), none, .faddr 1 (.tmp 3)⟩] (
       .step ⟨(some 56), none, .faddr 1 (.tmp 7)⟩ (
        .ev ⟨(some 51), none, .app 2 16 (.tmp 48) (.tmp 50)⟩ [⟨(some 56), none, .faddr 1 (.tmp 7)⟩, ⟨(some 54), none, .load false 1 (.tmp 53)⟩, ⟨(some 53), none, .faddr 0 (.tmp 3)⟩, ⟨(some 49), none, .faddr 2 (.tmp 3)⟩, ⟨(some 46), none, .load false 1 (.tmp 45)⟩, ⟨(some 45), none, .faddr 1 (.tmp 3)⟩] (
        .ev ⟨(some 55), none, .app 6 48 (.tmp 52) (.tmp 54)⟩ [⟨(some 56), none, .faddr 1 (.tmp 7)⟩, ⟨(some 53), none, .faddr 0 (.tmp 3)⟩, ⟨(some 50), none, .load false 1 (.tmp 49)⟩, ⟨(some 49), none, .faddr 2 (.tmp 3)⟩, ⟨(some 46), none, .load false 1 (.tmp 45)⟩, ⟨(some 45), none, .faddr 1 (.tmp 3)⟩] (
         .ev ⟨none, none, .store 1 (.tmp 56) (.tmp 47)⟩ [⟨(some 54), none, .load false 1 (.tmp 53)⟩, ⟨(some 53), none, .faddr 0 (.tmp 3)⟩, ⟨(some 50), none, .load false 1 (.tmp 49)⟩, ⟨(some 49), none, .faddr 2 (.tmp 3)⟩] (
          .step ⟨(some 57), none, .faddr 2 (.tmp 7)⟩ (
           .ev ⟨none, none, .store 1 (.tmp 57) (.tmp 51)⟩ [⟨(some 54), none, .load false 1 (.tmp 53)⟩, ⟨(some 53), none, .faddr 0 (.tmp 3)⟩] (
           .step ⟨(some 58), none, .faddr 0 (.tmp 7)⟩ (
            .ev ⟨none, none, .store 1 (.tmp 58) (.tmp 55)⟩ [] (
            .done)
            (.stop)))
           (.stop)))
          (.stop))
         (.stop))
        (.stop)))
       (.stop))
      (.stop)))
     (.ev ⟨(some 52), none, .bslice 6 (.agg #[(.int .i64 0), (.int .i64 0), (.int .i64 0), (.int .i64 0), (.int .i64 0), (.int .i64 0)]) 0 []⟩ [⟨(some 54), none, .load false 1 (.tmp 53)⟩, ⟨(some 53), none, .faddr 0 (.tmp 3)⟩, ⟨(some 50), none, .load false 1 (.tmp 49)⟩, ⟨(some 49), none, .faddr 2 (.tmp 3)⟩, ⟨(some 46), none, .load false 1 (.tmp 45)⟩, ⟨(some 45), none, .faddr 1 (.tmp 3)⟩] (
     .ev ⟨(some 47), none, .app 2 16 (.tmp 44) (.tmp 46)⟩ [⟨(some 54), none, .load false 1 (.tmp 53)⟩, ⟨(some 53), none, .faddr 0 (.tmp 3)⟩, ⟨(some 50), none, .load false 1 (.tmp 49)⟩, ⟨(some 49), none, .faddr 2 (.tmp 3)⟩, ⟨(some 45), none, .faddr 1 (.tmp 3)⟩] (
      .step ⟨(some 56), none, .faddr 1 (.tmp 7)⟩ (
       .ev ⟨(some 48), none, .bslice 2 (.agg #[(.int .i64 0), (.int .i64 0)]) 0 []⟩ [⟨(some 56), none, .faddr 1 (.tmp 7)⟩, ⟨(some 54), none, .load false 1 (.tmp 53)⟩, ⟨(some 53), none, .faddr 0 (.tmp 3)⟩, ⟨(some 50), none, .load false 1 (.tmp 49)⟩, ⟨(some 49), none, .faddr 2 (.tmp 3)⟩, ⟨(some 46), none, .load false 1 (.tmp 45)⟩, ⟨(some 45), none, .faddr 1 (.tmp 3)⟩] (
       .ev ⟨(some 51), none, .app 2 16 (.tmp 48) (.tmp 50)⟩ [⟨(some 56), none, .faddr 1 (.tmp 7)⟩, ⟨(some 54), none, .load false 1 (.tmp 53)⟩, ⟨(some 53), none, .faddr 0 (.tmp 3)⟩, ⟨(some 49), none, .faddr 2 (.tmp 3)⟩, ⟨(some 46), none, .load false 1 (.tmp 45)⟩, ⟨(some 45), none, .faddr 1 (.tmp 3)⟩] (
        .ev ⟨(some 55), none, .app 6 48 (.tmp 52) (.tmp 54)⟩ [⟨(some 56), none, .faddr 1 (.tmp 7)⟩, ⟨(some 53), none, .faddr 0 (.tmp 3)⟩, ⟨(some 50), none, .load false 1 (.tmp 49)⟩, ⟨(some 49), none, .faddr 2 (.tmp 3)⟩, ⟨(some 46), none, .load false 1 (.tmp 45)⟩, ⟨(some 45), none, .faddr 1 (.tmp 3)⟩] (
         .ev ⟨none, none, .store 1 (.tmp 56) (.tmp 47)⟩ [⟨(some 54), none, .load false 1 (.tmp 53)⟩, ⟨(some 53), none, .faddr 0 (.tmp 3)⟩, ⟨(some 50), none, .load false 1 (.tmp 49)⟩, ⟨(some 49), none, .faddr 2 (.tmp 3)⟩] (
          .step ⟨(some 57), none, .faddr 2 (.tmp 7)⟩ (
           .ev ⟨none, none, .store 1 (.tmp 57) (.tmp 51)⟩ [⟨(some 54), none, .load false 1 (.tmp 53)⟩, ⟨(some 53), none, .faddr 0 (.tmp 3)⟩] (
           .step ⟨(some 58), none, .faddr 0 (.tmp 7)⟩ (
            .ev ⟨none, none, .store 1 (.tmp 58) (.tmp 55)⟩ [] (
            .done)
            (.stop)))
           (.stop)))
          (.stop))
         (.stop))
        (.stop))
       (.stop)))
      (.ev ⟨(some 48), none, .bslice 2 (.agg #[(.int .i64 0), (.int .i64 0)]) 0 []⟩ [⟨(some 54), none, .load false 1 (.tmp 53)⟩, ⟨(some 53), none, .faddr 0 (.tmp 3)⟩, ⟨(some 50), none, .load false 1 (.tmp 49)⟩, ⟨(some 49), none, .faddr 2 (.tmp 3)⟩, ⟨(some 46), none, .load false 1 (.tmp 45)⟩, ⟨(some 45), none, .faddr 1 (.tmp 3)⟩] (
      .ev ⟨(some 47), none, .app 2 16 (.tmp 44) (.tmp 46)⟩ [⟨(some 54), none, .load false 1 (.tmp 53)⟩, ⟨(some 53), none, .faddr 0 (.tmp 3)⟩, ⟨(some 50), none, .load false 1 (.tmp 49)⟩, ⟨(some 49), none, .faddr 2 (.tmp 3)⟩, ⟨(some 45), none, .faddr 1 (.tmp 3)⟩] (
       .step ⟨(some 56), none, .faddr 1 (.tmp 7)⟩ (
        .ev ⟨(some 51), none, .app 2 16 (.tmp 48) (.tmp 50)⟩ [⟨(some 56), none, .faddr 1 (.tmp 7)⟩, ⟨(some 54), none, .load false 1 (.tmp 53)⟩, ⟨(some 53), none, .faddr 0 (.tmp 3)⟩, ⟨(some 49), none, .faddr 2 (.tmp 3)⟩, ⟨(some 46), none, .load false 1 (.tmp 45)⟩, ⟨(some 45), none, .faddr 1 (.tmp 3)⟩] (
        .ev ⟨(some 55), none, .app 6 48 (.tmp 52) (.tmp 54)⟩ [⟨(some 56), none, .faddr 1 (.tmp 7)⟩, ⟨(some 53), none, .faddr 0 (.tmp 3)⟩, ⟨(some 50), none, .load false 1 (.tmp 49)⟩, ⟨(some 49), none, .faddr 2 (.tmp 3)⟩, ⟨(some 46), none, .load false 1 (.tmp 45)⟩, ⟨(some 45), none, .faddr 1 (.tmp 3)⟩] (
         .ev ⟨none, none, .store 1 (.tmp 56) (.tmp 47)⟩ [⟨(some 54), none, .load false 1 (.tmp 53)⟩, ⟨(some 53), none, .faddr 0 (.tmp 3)⟩, ⟨(some 50), none, .load false 1 (.tmp 49)⟩, ⟨(some 49), none, .faddr 2 (.tmp 3)⟩] (
          .step ⟨(some 57), none, .faddr 2 (.tmp 7)⟩ (
           .ev ⟨none, none, .store 1 (.tmp 57) (.tmp 51)⟩ [⟨(some 54), none, .load false 1 (.tmp 53)⟩, ⟨(some 53), none, .faddr 0 (.tmp 3)⟩] (
           .step ⟨(some 58), none, .faddr 0 (.tmp 7)⟩ (
            .ev ⟨none, none, .store 1 (.tmp 58) (.tmp 55)⟩ [] (
            .done)
            (.stop)))
           (.stop)))
          (.stop))
         (.stop))
        (.stop)))
       (.stop))
      (.stop)))
     (.stop))))
    (.ev ⟨(some 48), none, .bslice 2 (.agg #[(.int .i64 0), (.int .i64 0)]) 0 []⟩ [⟨(some 54), none, .load false 1 (.tmp 53)⟩, ⟨(some 53), none, .faddr 0 (.tmp 3)⟩, ⟨(some 50), none, .load false 1 (.tmp 49)⟩, ⟨(some 49), none, .faddr 2 (.tmp 3)⟩, ⟨(some 46), none, .load false 1 (.tmp 45)⟩, ⟨(some 45), none, .faddr 1 (.tmp 3)⟩] (
    .ev ⟨(some 44), none, .bslice 2 (.agg #[(.int .i64 0), (.int .i64 0)]) 0 []⟩ [⟨(some 54), none, .load false 1 (.tmp 53)⟩, ⟨(some 53), none, .faddr 0 (.tmp 3)⟩, ⟨(some 50), none, .load false 1 (.tmp 49)⟩, ⟨(some 49), none, .faddr 2 (.tmp 3)⟩, ⟨(some 46), none, .load false 1 (.tmp 45)⟩, ⟨(some 45), none, .faddr 1 (.tmp 3)⟩] (
     .ev ⟨(some 47), none, .app 2 16 (.tmp 44) (.tmp 46)⟩ [⟨(some 54), none, .load false 1 (.tmp 53)⟩, ⟨(some 53), none, .faddr 0 (.tmp 3)⟩, ⟨(some 50), none, .load false 1 (.tmp 49)⟩, ⟨(some 49), none, .faddr 2 (.tmp 3)⟩, ⟨(some 45), none, .faddr 1 (.tmp 3)⟩] (
      .step ⟨(some 56), none, .faddr 1 (.tmp 7)⟩ (
       .ev ⟨(some 51), none, .app 2 16 (.tmp 48) (.tmp 50)⟩ [⟨(some 56), none, .faddr 1 (.tmp 7)⟩, ⟨(some 54), none, .load false 1 (.tmp 53)⟩, ⟨(some 53), none, .faddr 0 (.tmp 3)⟩, ⟨(some 49), none, .faddr 2 (.tmp 3)⟩, ⟨(some 46), none, .load false 1 (.tmp 45)⟩, ⟨(some 45), none, .faddr 1 (.tmp 3)⟩] (
       .ev ⟨(some 52), none, .bslice 6 (.agg #[(.int .i64 0), (.int .i64 0), (.int .i64 0), (.int .i64 0), (.int .i64 0), (.int .i64 0)]) 0 []⟩ [⟨(some 56), none, .faddr 1 (.tmp 7)⟩, ⟨(some 54), none, .load false 1 (.tmp 53)⟩, ⟨(some 53), none, .faddr 0 (.tmp 3)⟩, ⟨(some 50), none, .load false 1 (.tmp 49)⟩, ⟨(some 49), none, .faddr 2 (.tmp 3)⟩, ⟨(some 46), none, .load false 1 (.tmp 45)⟩, ⟨(some 45), none, .faddr 1 (.tmp 3)⟩] (
        .ev ⟨(some 55), none, .app 6 48 (.tmp 52) (.tmp 54)⟩ [⟨(some 56), none, .faddr 1 (.tmp 7)⟩, ⟨(some 53), none, .faddr 0 (.tmp 3)⟩, ⟨(some 50), none, .load false 1 (.tmp 49)⟩, ⟨(some 49), none, .faddr 2 (.tmp 3)⟩, ⟨(some 46), none, .load false 1 (.tmp 45)⟩, ⟨(some 45), none, .faddr 1 (.tmp 3)⟩] (
         .ev ⟨none, none, .store 1 (.tmp 56) (.tmp 47)⟩ [⟨(some 54), none, .load false 1 (.tmp 53)⟩, ⟨(some 53), none, .faddr 0 (.tmp 3)⟩, ⟨(some 50), none, .load false 1 (.tmp 49)⟩, ⟨(some 49), none, .faddr 2 (.tmp 3)⟩] (
          .step ⟨(some 57), none, .faddr 2 (.tmp 7)⟩ (
           .ev ⟨none, none, .store 1 (.tmp 57) (.tmp 51)⟩ [⟨(some 54), none, .load false 1 (.tmp 53)⟩, ⟨(some 53), none, .faddr 0 (.tmp 3)⟩] (
           .step ⟨(some 58), none, .faddr 0 (.tmp 7)⟩ (
            .ev ⟨none, none, .store 1 (.tmp 58) (.tmp 55)⟩ [] (
            .done)
            (.stop)))
           (.stop)))
          (.stop))
         (.stop))
        (.stop))
       (.ev ⟨(some 52), none, .bslice 6 (.agg #[(.int .i64 0), (.int .i64 0), (.int .i64 0), (.int .i64 0), (.int .i64 0), (.int .i64 0)]) 0 []⟩ [⟨(some 56), none, .faddr 1 (.tmp 7)⟩, ⟨(some 54), none, .load false 1 (.tmp 53)⟩, ⟨(some 53), none, .faddr 0 (.tmp 3)⟩, ⟨(some 50), none, .load false 1 (.tmp 49)⟩, ⟨(some 49), none, .faddr 2 (.tmp 3)⟩, ⟨(some 46), none, .load false 1 (.tmp 45)⟩, ⟨(some 45), none, .faddr 1 (.tmp 3)⟩] (
       .ev ⟨(some 51), none, .app 2 16 (.tmp 48) (.tmp 50)⟩ [⟨(some 56), none, .faddr 1 (.tmp 7)⟩, ⟨(some 54), none, .load false 1 (.tmp 53)⟩, ⟨(some 53), none, .faddr 0 (.tmp 3)⟩, ⟨(some 49), none, .faddr 2 (.tmp 3)⟩, ⟨(some 46), none, .load false 1 (.tmp 45)⟩, ⟨(some 45), none, .faddr 1 (.tmp 3)⟩] (
        .ev ⟨(some 55), none, .app 6 48 (.tmp 52) (.tmp 54)⟩ [⟨(some 56), none, .faddr 1 (.tmp 7)⟩, ⟨(some 53), none, .faddr 0 (.tmp 3)⟩, ⟨(some 50), none, .load false 1 (.tmp 49)⟩, ⟨(some 49), none, .faddr 2 (.tmp 3)⟩, ⟨(some 46), none, .load false 1 (.tmp 45)⟩, ⟨(some 45), none, .faddr 1 (.tmp 3)⟩] (
         .ev ⟨none, none, .store 1 (.tmp 56) (.tmp 47)⟩ [⟨(some 54), none, .load false 1 (.tmp 53)⟩, ⟨(some 53), none, .faddr 0 (.tmp 3)⟩, ⟨(some 50), none, .load false 1 (.tmp 49)⟩, ⟨(some 49), none, .faddr 2 (.tmp 3)⟩] (
          .step ⟨(some 57), none, .faddr 2 (.tmp 7)⟩ (
           .ev ⟨none, none, .store 1 (.tmp 57) (.tmp 51)⟩ [⟨(some 54), none, .load false 1 (.tmp 53)⟩, ⟨(some 53), none, .faddr 0 (.tmp 3)⟩] (
           .step ⟨(some 58), none, .faddr 0 (.tmp 7)⟩ (
            .ev ⟨none, none, .store 1 (.tmp 58) (.tmp 55)⟩ [] (
            .done)
            (.stop)))
           (.stop)))
          (.stop))
         (.stop))
        (.stop))
       (.stop))))
      (.ev ⟨(some 52), none, .bslice 6 (.agg #[(.int .i64 0), (.int .i64 0), (.int .i64 0), (.int .i64 0), (.int .i64 0), (.int .i64 0)]) 0 []⟩ [⟨(some 54), none, .load false 1 (.tmp 53)⟩, ⟨(some 53), none, .faddr 0 (.tmp 3)⟩, ⟨(some 50), none, .load false 1 (.tmp 49)⟩, ⟨(some 49), none, .faddr 2 (.tmp 3)⟩, ⟨(some 46), none, .load false 1 (.tmp 45)⟩, ⟨(some 45), none, .faddr 1 (.tmp 3)⟩] (
      .ev ⟨(some 47), none, .app 2 16 (.tmp 44) (.tmp 46)⟩ [⟨(some 54), none, .load false 1 (.tmp 53)⟩, ⟨(some 53), none, .faddr 0 (.tmp 3)⟩, ⟨(some 50), none, .load false 1 (.tmp 49)⟩, ⟨(some 49), none, .faddr 2 (.tmp 3)⟩, ⟨(some 45), none, .faddr 1 (.tmp 3)⟩] (
       .step ⟨(some 56), none, .faddr 1 (.tmp 7)⟩ (
        .ev ⟨(some 51), none, .app 2 16 (.tmp 48) (.tmp 50)⟩ [⟨(some 56), none, .faddr 1 (.tmp 7)⟩, ⟨(some 54), none, .load false 1 (.tmp 53)⟩, ⟨(some 53), none, .faddr 0 (.tmp 3)⟩, ⟨(some 49), none, .faddr 2 (.tmp 3)⟩, ⟨(some 46), none, .load false 1 (.tmp 45)⟩, ⟨(some 45), none, .faddr 1 (.tmp 3)⟩] (
        .ev ⟨(some 55), none, .app 6 48 (.tmp 52) (.tmp 54)⟩ [⟨(some 56), none, .faddr 1 (.tmp 7)⟩, ⟨(some 53), none, .faddr 0 (.tmp 3)⟩, ⟨(some 50), none, .load false 1 (.tmp 49)⟩, ⟨(some 49), none, .faddr 2 (.tmp 3)⟩, ⟨(some 46), none, .load false 1 (.tmp 45)⟩, ⟨(some 45), none, .faddr 1 (.tmp 3)⟩] (
         .ev ⟨none, none, .store 1 (.tmp 56) (.tmp 47)⟩ [⟨(some 54), none, .load false 1 (.tmp 53)⟩, ⟨(some 53), none, .faddr 0 (.tmp 3)⟩, ⟨(some 50), none, .load false 1 (.tmp 49)⟩, ⟨(some 49), none, .faddr 2 (.tmp 3)⟩] (
          .step ⟨(some 57), none, .faddr 2 (.tmp 7)⟩ (
           .ev ⟨none, none, .store 1 (.tmp 57) (.tmp 51)⟩ [⟨(some 54), none, .load false 1 (.tmp 53)⟩, ⟨(some 53), none, .faddr 0 (.tmp 3)⟩] (
           .step ⟨(some 58), none, .faddr 0 (.tmp 7)⟩ (
            .ev ⟨none, none, .store 1 (.tmp 58) (.tmp 55)⟩ [] (
            .done)
            (.stop)))
           (.stop)))
          (.stop))
         (.stop))
        (.stop)))
       (.stop))
      (.stop)))
     (.ev ⟨(some 52), none, .bslice 6 (.agg #[(.int .i64 0), (.int .i64 0), (.int .i64 0), (.int .i64 0), (.int .i64 0), (.int .i64 0)]) 0 []⟩ [⟨(some 54), none, .load false 1 (.tmp 53)⟩, ⟨(some 53), none, .faddr 0 (.tmp 3)⟩, ⟨(some 50), none, .load false 1 (.tmp 49)⟩, ⟨(some 49), none, .faddr 2 (.tmp 3)⟩, ⟨(some 46), none, .load false 1 (.tmp 45)⟩, ⟨(some 45), none, .faddr 1 (.tmp 3)⟩] (
     .ev ⟨(some 44), none, .bslice 2 (.agg #[(.int .i64 0), (.int .i64 0)]) 0 []⟩ [⟨(some 54), none, .load false 1 (.tmp 53)⟩, ⟨(some 53), none, .faddr 0 (.tmp 3)⟩, ⟨(some 50), none, .load false 1 (.tmp 49)⟩, ⟨(some 49), none, .faddr 2 (.tmp 3)⟩, ⟨(some 46), none, .load false 1 (.tmp 45)⟩, ⟨(some 45), none, .faddr 1 (.tmp 3)⟩] (
      .ev ⟨(some 47), none, .app 2 16 (.tmp 44) (.tmp 46)⟩ [⟨(some 54), none, .load false 1 (.tmp 53)⟩, ⟨(some 53), none, .faddr 0 (.tmp 3)⟩, ⟨(some 50), none, .load false 1 (.tmp 49)⟩, ⟨(some 49), none, .faddr 2 (.tmp 3)⟩, ⟨(some 45), none, .faddr 1 (.tmp 3)⟩] (
       .step ⟨(some 56), none, .faddr 1 (.tmp 7)⟩ (
        .ev ⟨(some 51), none, .app 2 16 (.tmp 48) (.tmp 50)⟩ [⟨(some 56), none, .faddr 1 (.tmp 7)⟩, ⟨(some 54), none, .load false 1 (.tmp 53)⟩, ⟨(some 53), none, .faddr 0 (.tmp 3)⟩, ⟨(some 49), none, .faddr 2 (.tmp 3)⟩, ⟨(some 46), none, .load false 1 (.tmp 45)⟩, ⟨(some 45), none, .faddr 1 (.tmp 3)⟩] (
        .ev ⟨(some 55), none, .app 6 48 (.tmp 52) (.tmp 54)⟩ [⟨(some 56), none, .faddr 1 (.tmp 7)⟩, ⟨(some 53), none, .faddr 0 (.tmp 3)⟩, ⟨(some 50), none, .load false 1 (.tmp 49)⟩, ⟨(some 49), none, .faddr 2 (.tmp 3)⟩, ⟨(some 46), none, .load false 1 (.tmp 45)⟩, ⟨(some 45), none, .faddr 1 (.tmp 3)⟩] (
         .ev ⟨none, none, .store 1 (.tmp 56) (.tmp 47)⟩ [⟨(some 54), none, .load false 1 (.tmp 53)⟩, ⟨(some 53), none, .faddr 0 (.tmp 3)⟩, ⟨(some 50), none, .load false 1 (.tmp 49)⟩, ⟨(some 49), none, .faddr 2 (.tmp 3)⟩] (
          .step ⟨(some 57), none, .faddr 2 (.tmp 7)⟩ (
           .ev ⟨none, none, .store 1 (.tmp 57) (.tmp 51)⟩ [⟨(some 54), none, .load false 1 (.tmp 53)⟩, ⟨(some 53), none, .faddr 0 (.tmp 3)⟩] (
           .step ⟨(some 58), none, .faddr 0 (.tmp 7)⟩ (
            .ev ⟨none, none, .store 1 (.tmp 58) (.tmp 55)⟩ [] (
            .done)
            (.stop)))
           (.stop)))
          (.stop))
         (.stop))
        (.stop)))
       (.stop))
      (.stop))
     (.stop)))
    (.ev ⟨(some 52), none, .bslice 6 (.agg #[(.int .i64 0), (.int .i64 0), (.int .i64 0), (.int .i64 0), (.int .i64 0), (.int .i64 0)]) 0 []⟩ [⟨(some 54), none, .load false 1 (.tmp 53)⟩, ⟨(some 53), none, .faddr 0 (.tmp 3)⟩, ⟨(some 50), none, .load false 1 (.tmp 49)⟩, ⟨(some 49), none, .faddr 2 (.tmp 3)⟩, ⟨(some 46), none, .load false 1 (.tmp 45)⟩, ⟨(some 45), none, .faddr 1 (.tmp 3)⟩] (
    .ev ⟨(some 44), none, .bslice 2 (.agg #[(.int .i64 0), (.int .i64 0)]) 0 []⟩ [⟨(some 54), none, .load false 1 (.tmp 53)⟩, ⟨(some 53), none, .faddr 0 (.tmp 3)⟩, ⟨(some 50), none, .load false 1 (.tmp 49)⟩, ⟨(some 49), none, .faddr 2 (.tmp 3)⟩, ⟨(some 46), none, .load false 1 (.tmp 45)⟩, ⟨(some 45), none, .faddr 1 (.tmp 3)⟩] (
     .ev ⟨(some 47), none, .app 2 16 (.tmp 44) (.tmp 46)⟩ [⟨(some 54), none, .load false 1 (.tmp 53)⟩, ⟨(some 53), none, .faddr 0 (.tmp 3)⟩, ⟨(some 50), none, .load false 1 (.tmp 49)⟩, ⟨(some 49), none, .faddr 2 (.tmp 3)⟩, ⟨(some 45), none, .faddr 1 (.tmp 3)⟩] (
      .step ⟨(some 56), none, .faddr 1 (.tmp 7)⟩ (
       .ev ⟨(some 48), none, .bslice 2 (.agg #[(.int .i64 0), (.int .i64 0)]) 0 []⟩ [⟨(some 56), none, .faddr 1 (.tmp 7)⟩, ⟨(some 54), none, .load false 1 (.tmp 53)⟩, ⟨(some 53), none, .faddr 0 (.tmp 3)⟩, ⟨(some 50), none, .load false 1 (.tmp 49)⟩, ⟨(some 49), none, .faddr 2 (.tmp 3)⟩, ⟨(some 46), none, .load false 1 (.tmp 45)⟩, ⟨(some 45), none, .faddr 1 (.tmp 3)⟩] (
       .ev ⟨(some 51), none, .app 2 16 (.tmp 48) (.tmp 50)⟩ [⟨(some 56), none, .faddr 1 (.tmp 7)⟩, ⟨(some 54), none, .load false 1 (.tmp 53)⟩, ⟨(some 53), none, .faddr 0 (.tmp 3)⟩, ⟨(some 49), none, .faddr 2 (.tmp 3)⟩, ⟨(some 46), none, .load false 1 (.tmp 45)⟩, ⟨(some 45), none, .faddr 1 (.tmp 3)⟩] (
        .ev ⟨(some 55), none, .app 6 48 (.tmp 52) (.tmp 54)⟩ [⟨(some 56), none, .faddr 1 (.tmp 7)⟩, ⟨(some 53), none, .faddr 0 (.tmp 3)⟩, ⟨(some 50), none, .load false 1 (.tmp 49)⟩, ⟨(some 49), none, .faddr 2 (.tmp 3)⟩, ⟨(some 46), none, .load false 1 (.tmp 45)⟩, ⟨(some 45), none, .faddr 1 (.tmp 3)⟩] (
         .ev ⟨none, none, .store 1 (.tmp 56) (.tmp 47)⟩ [⟨(some 54), none, .load false 1 (.tmp 53)⟩, ⟨(some 53), none, .faddr 0 (.tmp 3)⟩, ⟨(some 50), none, .load false 1 (.tmp 49)⟩, ⟨(some 49), none, .faddr 2 (.tmp 3)⟩] (
          .step ⟨(some 57), none, .faddr 2 (.tmp 7)⟩ (
           .ev ⟨none, none, .store 1 (.tmp 57) (.tmp 51)⟩ [⟨(some 54), none, .load false 1 (.tmp 53)⟩, ⟨(some 53), none, .faddr 0 (.tmp 3)⟩] (
           .step ⟨(some 58), none, .faddr 0 (.tmp 7)⟩ (
            .ev ⟨none, none, .store 1 (.tmp 58) (.tmp 55)⟩ [] (
            .done)
            (.stop)))
           (.stop)))
          (.stop))
         (.stop))
        (.stop))
       (.stop)))
      (.ev ⟨(some 48), none, .bslice 2 (.agg #[(.int .i64 0), (.int .i64 0)]) 0 []⟩ [⟨(some 54), none, .load false 1 (.tmp 53)⟩, ⟨(some 53), none, .faddr 0 (.tmp 3)⟩, ⟨(some 50), none, .load false 1 (.tmp 49)⟩, ⟨(some 49), none, .faddr 2 (.tmp 3)⟩, ⟨(some 46), none, .load false 1 (.tmp 45)⟩, ⟨(some 45), none, .faddr 1 (.tmp 3)⟩] (
      .ev ⟨(some 47), none, .app 2 16 (.tmp 44) (.tmp 46)⟩ [⟨(some 54), none, .load false 1 (.tmp 53)⟩, ⟨(some 53), none, .faddr 0 (.tmp 3)⟩, ⟨(some 50), none, .load false 1 (.tmp 49)⟩, ⟨(some 49), none, .faddr 2 (.tmp 3)⟩, ⟨(some 45), none, .faddr 1 (.tmp 3)⟩] (
       .step ⟨(some 56), none, .faddr 1 (.tmp 7)⟩ (
        .ev ⟨(some 51), none, .app 2 16 (.tmp 48) (.tmp 50)⟩ [⟨(some 56), none, .faddr 1 (.tmp 7)⟩, ⟨(some 54), none, .load false 1 (.tmp 53)⟩, ⟨(some 53), none, .faddr 0 (.tmp 3)⟩, ⟨(some 49), none, .faddr 2 (.tmp 3)⟩, ⟨(some 46), none, .load false 1 (.tmp 45)⟩, ⟨(some 45), none, .faddr 1 (.tmp 3)⟩] (
        .ev ⟨(some 55), none, .app 6 48 (.tmp 52) (.tmp 54)⟩ [⟨(some 56), none, .faddr 1 (.tmp 7)⟩, ⟨(some 53), none, .faddr 0 (.tmp 3)⟩, ⟨(some 50), none, .load false 1 (.tmp 49)⟩, ⟨(some 49), none, .faddr 2 (.tmp 3)⟩, ⟨(some 46), none, .load false 1 (.tmp 45)⟩, ⟨(some 45), none, .faddr 1 (.tmp 3)⟩] (
         .ev ⟨none, none, .store 1 (.tmp 56) (.tmp 47)⟩ [⟨(some 54), none, .load false 1 (.tmp 53)⟩, ⟨(some 53), none, .faddr 0 (.tmp 3)⟩, ⟨(some 50), none, .load false 1 (.tmp 49)⟩, ⟨(some 49), none, .faddr 2 (.tmp 3)⟩] (
          .step ⟨(some 57), none, .faddr 2 (.tmp 7)⟩ (
           .ev ⟨none, none, .store 1 (.tmp 57) (.tmp 51)⟩ [⟨(some 54), none, .load false 1 (.tmp 53)⟩, ⟨(some 53), none, .faddr 0 (.tmp 3)⟩] (
           .step ⟨(some 58), none, .faddr 0 (.tmp 7)⟩ (
            .ev ⟨none, none, .store 1 (.tmp 58) (.tmp 55)⟩ [] (
            .done)
            (.stop)))
           (.stop)))
          (.stop))
         (.stop))
        (.stop)))
       (.stop))
      (.stop)))
     (.ev ⟨(some 48), none, .bslice 2 (.agg #[(.int .i64 0), (.int .i64 0)]) 0 []⟩ [⟨(some 54), none, .load false 1 (.tmp 53)⟩, ⟨(some 53), none, .faddr 0 (.tmp 3)⟩, ⟨(some 50), none, .load false 1 (.tmp 49)⟩, ⟨(some 49), none, .faddr 2 (.tmp 3)⟩, ⟨(some 46), none, .load false 1 (.tmp 45)⟩, ⟨(some 45), none, .faddr 1 (.tmp 3)⟩] (
     .ev ⟨(some 44), none, .bslice 2 (.agg #[(.int .i64 0), (.int .i64 0)]) 0 []⟩ [⟨(some 54), none, .load false 1 (.tmp 53)⟩, ⟨(some 53), none, .faddr 0 (.tmp 3)⟩, ⟨(some 50), none, .load false 1 (.tmp 49)⟩, ⟨(some 49), none, .faddr 2 (.tmp 3)⟩, ⟨(some 46), none, .load false 1 (.tmp 45)⟩, ⟨(some 45), none, .faddr 1 (.tmp 3)⟩] (
      .ev ⟨(some 47), none, .app 2 16 (.tmp 44) (.tmp 46)⟩ [⟨(some 54), none, .load false 1 (.tmp 53)⟩, ⟨(some 53), none, .faddr 0 (.tmp 3)⟩, ⟨(some 50), none, .load false 1 (.tmp 49)⟩, ⟨(some 49), none, .faddr 2 (.tmp 3)⟩, ⟨(some 45), none, .faddr 1 (.tmp 3)⟩] (
       .step ⟨(some 56), none, .faddr 1 (.tmp 7)⟩ (
        .ev ⟨(some 51), none, .app 2 16 (.tmp 48) (.tmp 50)⟩ [⟨(some 56), none, .faddr 1 (.tmp 7)⟩, ⟨(some 54), none, .load false 1 (.tmp 53)⟩, ⟨(some 53), none, .faddr 0 (.tmp 3)⟩, ⟨(some 49), none, .faddr 2 (.tmp 3)⟩, ⟨(some 46), none, .load false 1 (.tmp 45)⟩, ⟨(some 45), none, .faddr 1 (.tmp 3)⟩] (
        .ev ⟨(some 55), none, .app 6 48 (.tmp 52) (.tmp 54)⟩ [⟨(some 56), none, .faddr 1 (.tmp 7)⟩, ⟨(some 53), none, .faddr 0 (.tmp 3)⟩, ⟨(some 50), none, .load false 1 (.tmp 49)⟩, ⟨(some 49), none, .faddr 2 (.tmp 3)⟩, ⟨(some 46), none, .load false 1 (.tmp 45)⟩, ⟨(some 45), none, .faddr 1 (.tmp 3)⟩] (
         .ev ⟨none, none, .store 1 (.tmp 56) (.tmp 47)⟩ [⟨(some 54), none, .load false 1 (.tmp 53)⟩, ⟨(some 53), none, .faddr 0 (.tmp 3)⟩, ⟨(some 50), none, .load false 1 (.tmp 49)⟩, ⟨(some 49), none, .faddr 2 (.tmp 3)⟩] (
          .step ⟨(some 57), none, .faddr 2 (.tmp 7)⟩ (
           .ev ⟨none, none, .store 1 (.tmp 57) (.tmp 51)⟩ [⟨(some 54), none, .load false 1 (.tmp 53)⟩, ⟨(some 53), none, .faddr 0 (.tmp 3)⟩] (
           .step ⟨(some 58), none, .faddr 0 (.tmp 7)⟩ (
            .ev ⟨none, none, .store 1 (.tmp 58) (.tmp 55)⟩ [] (
            .done)
            (.stop)))
           (.stop)))
          (.stop))
         (.stop))
        (.stop)))
       (.stop))
      (.stop))
     (.stop)))
    (.stop)))))))))))
 (.seq (.reg [⟨(some 8), none, .mov (.lit (.slice none 0 0))⟩])
 (.seq (.seq (.reg [⟨(some 59), none, .faddr 1 (.tmp 7)⟩,
     ⟨(some 60), none, .load false 1 (.tmp 59)⟩,
     ⟨(some 61), none, .len (.tmp 60)⟩,
     ⟨(some 62), none, .mov (.lit (.int .i64 0))⟩])
  (.block 0 (.loop (.seq (.reg [⟨(some 63), none, .bin .lss (.tmp 62) (.tmp 61)⟩])
   (.seq (.cond (.tmp 63) (.skip)
      (.exit 0))
   (.seq (.block 1 (.seq (.reg [⟨(some 64), none, .mov (.tmp 62)⟩,
       ⟨(some 9), none, .mov (.tmp 64)⟩])
    (.reg [⟨(some 65), none, .mov (.tmp 8)⟩,
      ⟨(some 66), none, .faddr 1 (.tmp 7)⟩,
      ⟨(some 67), none, .load false 1 (.tmp 66)⟩,
      ⟨(some 68), none, .mov (.tmp 9)⟩,
      ⟨(some 69), none, .iaddr 2 (.tmp 67) (.tmp 68)⟩,
      ⟨(some 70), none, .bslice 1 (.pointer none) 1 [(0, (.tmp 69))]⟩,
      ⟨(some 71), none, .app 1 8 (.tmp 65) (.tmp 70)⟩,
      ⟨(some 8), none, .mov (.tmp 71)⟩])))
   (.reg [⟨(some 72), none, .bin .add (.tmp 62) (.lit (.int .i64 1))⟩,
     ⟨(some 62), none, .mov (.tmp 72)⟩])))))))
 (.seq (.seq (.reg [⟨(some 73), none, .faddr 2 (.tmp 7)⟩,
     ⟨(some 74), none, .load false 1 (.tmp 73)⟩,
     ⟨(some 75), none, .len (.tmp 74)⟩,
     ⟨(some 76), none, .mov (.lit (.int .i64 0))⟩])
  (.block 2 (.loop (.seq (.reg [⟨(some 77), none, .bin .lss (.tmp 76) (.tmp 75)⟩])
   (.seq (.cond (.tmp 77) (.skip)
      (.exit 2))
   (.seq (.block 3 (.seq (.reg [⟨(some 78), none, .mov (.tmp 76)⟩,
       ⟨(some 10), none, .mov (.tmp 78)⟩])
    (.reg [⟨(some 79), none, .mov (.tmp 8)⟩,
      ⟨(some 80), none, .faddr 2 (.tmp 7)⟩,
      ⟨(some 81), none, .load false 1 (.tmp 80)⟩,
      ⟨(some 82), none, .mov (.tmp 10)⟩,
      ⟨(some 83), none, .iaddr 2 (.tmp 81) (.tmp 82)⟩,
      ⟨(some 84), none, .bslice 1 (.pointer none) 1 [(0, (.tmp 83))]⟩,
      ⟨(some 85), none, .app 1 8 (.tmp 79) (.tmp 84)⟩,
      ⟨(some 8), none, .mov (.tmp 85)⟩])))
   (.reg [⟨(some 86), none, .bin .add (.tmp 76) (.lit (.int .i64 1))⟩,
     ⟨(some 76), none, .mov (.tmp 86)⟩])))))))
 (.seq (.seq (.reg [⟨(some 87), none, .faddr 0 (.tmp 7)⟩,
     ⟨(some 88), none, .load false 1 (.tmp 87)⟩,
     ⟨(some 89), none, .len (.tmp 88)⟩,
     ⟨(some 90), none, .mov (.lit (.int .i64 0))⟩])
  (.block 4 (.loop (.seq (.reg [⟨(some 91), none, .bin .lss (.tmp 90) (.tmp 89)⟩])
   (.seq (.cond (.tmp 91) (.skip)
      (.exit 4))
   (.seq (.block 5 (.seq (.reg [⟨(some 92), none, .mov (.tmp 90)⟩,
       ⟨(some 11), none, .mov (.tmp 92)⟩])
    (.draw (.step ⟨(some 93), none, .mov (.tmp 8)⟩ (
      .step ⟨(some 94), none, .faddr 0 (.tmp 7)⟩ (
      .step ⟨(some 95), none, .load false 1 (.tmp 94)⟩ (
      .step ⟨(some 96), none, .mov (.tmp 11)⟩ (
      .step ⟨(some 97), none, .iaddr 6 (.tmp 95) (.tmp 96)⟩ (
      .step ⟨(some 98), none, .faddr 2 (.tmp 97)⟩ (
      .step ⟨(some 99), none, .faddr 0 (.tmp 7)⟩ (
      .step ⟨(some 100), none, .load false 1 (.tmp 99)⟩ (
      .step ⟨(some 101), none, .mov (.tmp 11)⟩ (
      .step ⟨(some 102), none, .iaddr 6 (.tmp 100) (.tmp 101)⟩ (
      .step ⟨(some 103), none, .faddr 4 (.tmp 102)⟩ (
      .ev ⟨(some 104), none, .bslice 1 (.pointer none) 2 [(0, (.tmp 98)), (1, (.tmp 103))]⟩ [⟨(some 102), none, .iaddr 6 (.tmp 100) (.tmp 101)⟩, ⟨(some 100), none, .load false 1 (.tmp 99)⟩, ⟨(some 99), none, .faddr 0 (.tmp 7)⟩, ⟨(some 97), none, .iaddr 6 (.tmp 95) (.tmp 96)⟩, ⟨(some 95), none, .load false 1 (.tmp 94)⟩, ⟨(some 94), none, .faddr 0 (.tmp 7)⟩] (
      .ev ⟨(some 105), none, .app 1 8 (.tmp 93) (.tmp 104)⟩ [⟨(some 103), none, .faddr 4 (.tmp 102)⟩, ⟨(some 102), none, .iaddr 6 (.tmp 100) (.tmp 101)⟩, ⟨(some 100), none, .load false 1 (.tmp 99)⟩, ⟨(some 99), none, .faddr 0 (.tmp 7)⟩, ⟨(some 98), none, .faddr 2 (.tmp 97)⟩, ⟨(some 97), none, .iaddr 6 (.tmp 95) (.tmp 96)⟩, ⟨(some 95), none, .load false 1 (.tmp 94)⟩, ⟨(some 94), none, .faddr 0 (.tmp 7)⟩] (
       .step ⟨(some 8), none, .mov (.tmp 105)⟩ (
        .done))
       (.stop))
      (.stop))))))))))))))))
   (.reg [⟨(some 106), none, .bin .add (.tmp 90) (.lit (.int .i64 1))⟩,
     ⟨(some 90), none, .mov (.tmp 106)⟩])))))))
 (.seq (.seq (.reg [⟨(some 107), none, .mov (.tmp 8)⟩,
     ⟨(some 108), none, .len (.tmp 107)⟩,
     ⟨(some 109), none, .bin .gtr (.tmp 108) (.lit (.int .i64 0))⟩])
  (.cond (.tmp 109) (.seq (.reg [⟨(some 110), none, .mov (.tmp 8)⟩,
      ⟨(some 111), none, .mov (.tmp 2)⟩,
      ⟨(some 112), none, .conv .i64 (.tmp 111)⟩,
      ⟨(some 113), none, .mov (.tmp 8)⟩,
      ⟨(some 114), none, .len (.tmp 113)⟩,
      ⟨(some 115), none, .bin .rem (.tmp 112) (.tmp 114)⟩,
      ⟨(some 116), none, .iaddr 1 (.tmp 110) (.tmp 115)⟩,
      ⟨(some 117), none, .load false 1 (.tmp 116)⟩,
      ⟨(some 12), none, .mov (.tmp 117)⟩])
   (.seq (.reg [⟨(some 118), none, .mov (.tmp 1)⟩,
      ⟨(some 119), none, .bin .rem (.tmp 118) (.lit (.int .u8 2))⟩,
      ⟨(some 120), none, .bin .eql (.tmp 119) (.lit (.int .u8 0))⟩])
   (.cond (.tmp 120) (.draw (.step ⟨(some 121), none, .mov (.tmp 12)⟩ (
      .step ⟨(some 122), none, .mov (.tmp 12)⟩ (
      .step ⟨(some 123), none, .nilck (.tmp 122)⟩ (
      .step ⟨(some 124), none, .faddr 1 (.tmp 123)⟩ (
      .step ⟨(some 125), none, .load false 1 (.tmp 124)⟩ (
      .step ⟨(some 126), none, .mov (.tmp 12)⟩ (
      .step ⟨(some 127), none, .nilck (.tmp 126)⟩ (
      .step ⟨(some 128), none, .faddr 0 (.tmp 127)⟩ (
      .step ⟨(some 129), none, .load false 1 (.tmp 128)⟩ (
      .step ⟨(some 130), none, .bin .add (.tmp 129) (.lit (.int .i64 1))⟩ (
      .step ⟨(some 131), none, .mxmn false (.tmp 125) [(.tmp 130)]⟩ (
      .step ⟨(some 132), none, .nilck (.tmp 121)⟩ (
      .step ⟨(some 133), none, .faddr 0 (.tmp 132)⟩ (
      .ev ⟨none, none, .store 1 (.tmp 133) (.tmp 131)⟩ [⟨(some 132), none, .nilck (.tmp 121)⟩] (
      .done)
      (.stop))))))))))))))))
     (.draw (.step ⟨(some 134), none, .mov (.tmp 12)⟩ (
      .step ⟨(some 135), none, .mov (.tmp 12)⟩ (
      .step ⟨(some 136), none, .nilck (.tmp 135)⟩ (
      .step ⟨(some 137), none, .faddr 0 (.tmp 136)⟩ (
      .step ⟨(some 138), none, .load false 1 (.tmp 137)⟩ (
      .step ⟨(some 139), none, .mov (.tmp 12)⟩ (
      .step ⟨(some 140), none, .nilck (.tmp 139)⟩ (
      .step ⟨(some 141), none, .faddr 1 (.tmp 140)⟩ (
      .step ⟨(some 142), none, .load false 1 (.tmp 141)⟩ (
      .step ⟨(some 143), none, .bin .sub (.tmp 142) (.lit (.int .i64 1))⟩ (
      .step ⟨(some 144), none, .mxmn true (.tmp 138) [(.tmp 143)]⟩ (
      .step ⟨(some 145), none, .nilck (.tmp 134)⟩ (
      .step ⟨(some 146), none, .faddr 1 (.tmp 145)⟩ (
      .ev ⟨none, none, .store 1 (.tmp 146) (.tmp 144)⟩ [⟨(some 145), none, .nilck (.tmp 134)⟩] (
      .done)
      (.stop)))))))))))))))))))
    (.skip)))
 (.seq (.seq (.reg [⟨(some 147), none, .load true 3 (.tmp 7)⟩,
     ⟨(some 148), none, .call (.fn 37) [(.tmp 147)]⟩,
     ⟨(some 149), none, .un .not (.tmp 148)⟩])
  (.cond (.tmp 149) (.seq (.reg [⟨(some 150), none, .call (.fn 14) []⟩,
      ⟨(some 6), none, .mov (.tmp 150)⟩])
   (.ret))
    (.skip)))
 (.seq (.reg [⟨(some 152), none, .load true 3 (.tmp 3)⟩,
    ⟨(some 153), none, .call (.fn 23) [(.tmp 152)]⟩,
    ⟨(some 151), none, .mov (.tmp 153)⟩,
    ⟨(some 154), none, .ext (.tmp 151) 0⟩,
    ⟨(some 155), none, .ext (.tmp 151) 1⟩,
    ⟨(some 13), none, .mov (.tmp 154)⟩,
    ⟨(some 14), none, .mov (.tmp 155)⟩])
 (.seq (.reg [⟨(some 157), none, .load true 3 (.tmp 7)⟩,
    ⟨(some 158), none, .call (.fn 23) [(.tmp 157)]⟩,
    ⟨(some 156), none, .mov (.tmp 158)⟩,
    ⟨(some 159), none, .ext (.tmp 156) 0⟩,
    ⟨(some 160), none, .ext (.tmp 156) 1⟩,
    ⟨(some 15), none, .mov (.tmp 159)⟩,
    ⟨(some 16), none, .mov (.tmp 160)⟩])
 (.seq (.seq (.reg [⟨(some 161), none, .mov (.tmp 14)⟩,
     ⟨(some 162), none, .bin .neq (.tmp 161) (.lit (.int .i64 0))⟩,
     ⟨(some 163), none, .mov (.tmp 162)⟩,
     ⟨(some 164), (some (163, false)), .mov (.tmp 16)⟩,
     ⟨(some 165), (some (163, false)), .bin .neq (.tmp 164) (.lit (.int .i64 0))⟩,
     ⟨(some 166), none, .pick (.tmp 163) (.lit (.bool true)) (.tmp 165)⟩,
     ⟨(some 167), none, .mov (.tmp 166)⟩,
     ⟨(some 168), (some (167, false)), .mov (.tmp 15)⟩,
     ⟨(some 169), (some (167, false)), .mov (.tmp 13)⟩,
     ⟨(some 170), (some (167, false)), .bin .gtr (.tmp 168) (.tmp 169)⟩,
     ⟨(some 171), none, .pick (.tmp 167) (.lit (.bool true)) (.tmp 170)⟩])
  (.cond (.tmp 171) (.seq (.reg [⟨(some 6), none, .mov (.lit (.bool false))⟩])
   (.ret))
    (.skip)))
 (.seq (.seq (.reg [⟨(some 172), none, .mov (.tmp 15)⟩,
     ⟨(some 173), none, .bin .eql (.tmp 172) (.lit (.int .i64 0))⟩])
  (.cond (.tmp 173) (.seq (.reg [⟨(some 174), none, .call (.fn 14) []⟩,
      ⟨(some 6), none, .mov (.tmp 174)⟩])
   (.ret))
    (.skip)))
 (.seq (.reg [⟨(some 17), none, .mov (.fn 43)⟩])
 (.seq (.reg [⟨(some 176), none, .load true 3 (.tmp 3)⟩,
    ⟨(some 177), none, .call (.fn 19) [(.tmp 176)]⟩,
    ⟨(some 175), none, .mov (.tmp 177)⟩,
    ⟨(some 178), none, .ext (.tmp 175) 0⟩,
    ⟨(some 179), none, .ext (.tmp 175) 1⟩,
    ⟨(some 180), none, .ext (.tmp 175) 2⟩,
    ⟨(some 18), none, .mov (.tmp 178)⟩,
    ⟨(some 19), none, .mov (.tmp 179)⟩,
    ⟨(some 20), none, .mov (.tmp 180)⟩])
 (.seq (.reg [⟨(some 182), none, .load true 3 (.tmp 7)⟩,
    ⟨(some 183), none, .call (.fn 19) [(.tmp 182)]⟩,
    ⟨(some 181), none, .mov (.tmp 183)⟩,
    ⟨(some 184), none, .ext (.tmp 181) 0⟩,
    ⟨(some 185), none, .ext (.tmp 181) 1⟩,
    ⟨(some 186), none, .ext (.tmp 181) 2⟩,
    ⟨(some 21), none, .mov (.tmp 184)⟩,
    ⟨(some 22), none, .mov (.tmp 185)⟩,
    ⟨(some 23), none, .mov (.tmp 186)⟩])
 (.seq (.reg [⟨(some 188), none, .load true 3 (.tmp 3)⟩,
    ⟨(some 189), none, .call (.fn 21) [(.tmp 188)]⟩,
    ⟨(some 187), none, .mov (.tmp 189)⟩,
    ⟨(some 190), none, .ext (.tmp 187) 0⟩,
    ⟨(some 191), none, .ext (.tmp 187) 1⟩,
    ⟨(some 24), none, .alloc [(.int .i64 0), (.int .i64 0)]⟩,
    ⟨none, none, .store 2 (.tmp 24) (.tmp 190)⟩,
    ⟨(some 25), none, .mov (.tmp 191)⟩])
 (.seq (.reg [⟨(some 193), none, .load true 3 (.tmp 7)⟩,
    ⟨(some 194), none, .call (.fn 21) [(.tmp 193)]⟩,
    ⟨(some 192), none, .mov (.tmp 194)⟩,
    ⟨(some 195), none, .ext (.tmp 192) 0⟩,
    ⟨(some 196), none, .ext (.tmp 192) 1⟩,
    ⟨(some 26), none, .alloc [(.int .i64 0), (.int .i64 0)]⟩,
    ⟨none, none, .store 2 (.tmp 26) (.tmp 195)⟩,
    ⟨(some 27), none, .mov (.tmp 196)⟩])
 (.seq (.reg [⟨(some 198), none, .load true 3 (.tmp 3)⟩,
    ⟨(some 199), none, .call (.fn 25) [(.tmp 198)]⟩,
    ⟨(some 197), none, .mov (.tmp 199)⟩,
    ⟨(some 200), none, .ext (.tmp 197) 0⟩,
    ⟨(some 201), none, .ext (.tmp 197) 1⟩,
    ⟨(some 202), none, .ext (.tmp 197) 2⟩,
    ⟨(some 28), none, .mov (.tmp 200)⟩,
    ⟨(some 29), none, .mov (.tmp 201)⟩,
    ⟨(some 30), none, .mov (.tmp 202)⟩])
 (.seq (.reg [⟨(some 204), none, .load true 3 (.tmp 7)⟩,
    ⟨(some 205), none, .call (.fn 25) [(.tmp 204)]⟩,
    ⟨(some 203), none, .mov (.tmp 205)⟩,
    ⟨(some 206), none, .ext (.tmp 203) 0⟩,
    ⟨(some 207), none, .ext (.tmp 203) 1⟩,
    ⟨(some 208), none, .ext (.tmp 203) 2⟩,
    ⟨(some 31), none, .mov (.tmp 206)⟩,
    ⟨(some 32), none, .mov (.tmp 207)⟩,
    ⟨(some 33), none, .mov (.tmp 208)⟩])
 (.seq (.seq (.reg [⟨(some 209), none, .mov (.tmp 20)⟩,
     ⟨(some 210), none, .bin .neq (.tmp 209) (.lit (.int .i64 0))⟩,
     ⟨(some 211), none, .mov (.tmp 210)⟩,
     ⟨(some 212), (some (211, false)), .mov (.tmp 23)⟩,
     ⟨(some 213), (some (211, false)), .bin .neq (.tmp 212) (.lit (.int .i64 0))⟩,
     ⟨(some 214), none, .pick (.tmp 211) (.lit (.bool true)) (.tmp 213)⟩,
     ⟨(some 215), none, .mov (.tmp 214)⟩,
     ⟨(some 216), (some (215, false)), .mov (.tmp 18)⟩,
     ⟨(some 217), (some (215, false)), .mov (.tmp 21)⟩,
     ⟨(some 218), (some (215, false)), .bin .andNot (.tmp 216) (.tmp 217)⟩,
     ⟨(some 219), (some (215, false)), .bin .neq (.tmp 218) (.lit (.int .i64 0))⟩,
     ⟨(some 220), none, .pick (.tmp 215) (.lit (.bool true)) (.tmp 219)⟩,
     ⟨(some 221), none, .mov (.tmp 220)⟩,
     ⟨(some 222), (some (221, false)), .mov (.tmp 22)⟩,
     ⟨(some 223), (some (221, false)), .mov (.tmp 19)⟩,
     ⟨(some 224), (some (221, false)), .bin .andNot (.tmp 222) (.tmp 223)⟩,
     ⟨(some 225), (some (221, false)), .bin .neq (.tmp 224) (.lit (.int .i64 0))⟩,
     ⟨(some 226), none, .pick (.tmp 221) (.lit (.bool true)) (.tmp 225)⟩,
     ⟨(some 227), none, .mov (.tmp 226)⟩,
     ⟨(some 228), (some (227, false)), .mov (.tmp 25)⟩,
     ⟨(some 229), (some (227, false)), .bin .neq (.tmp 228) (.lit (.int .i64 0))⟩,
     ⟨(some 230), none, .pick (.tmp 227) (.lit (.bool true)) (.tmp 229)⟩,
     ⟨(some 231), none, .mov (.tmp 230)⟩,
     ⟨(some 232), (some (231, false)), .mov (.tmp 27)⟩,
     ⟨(some 233), (some (231, false)), .bin .neq (.tmp 232) (.lit (.int .i64 0))⟩,
     ⟨(some 234), none, .pick (.tmp 231) (.lit (.bool true)) (.tmp 233)⟩,
     ⟨(some 235), none, .mov (.tmp 234)⟩,
     ⟨(some 236), (some (235, false)), .mov (.tmp 17)⟩,
     ⟨(some 237), (some (235, false)), .load true 2 (.tmp 26)⟩,
     ⟨(some 238), (some (235, false)), .load true 2 (.tmp 24)⟩,
     ⟨(some 239), (some (235, false)), .call (.tmp 236) [(.tmp 237), (.tmp 238)]⟩,
     ⟨(some 240), (some (235, false)), .un .not (.tmp 239)⟩,
     ⟨(some 241), none, .pick (.tmp 235) (.lit (.bool true)) (.tmp 240)⟩,
     ⟨(some 242), none, .mov (.tmp 241)⟩,
     ⟨(some 243), (some (242, false)), .mov (.tmp 30)⟩,
     ⟨(some 244), (some (242, false)), .bin .neq (.tmp 243) (.lit (.int .i64 0))⟩,
     ⟨(some 245), none, .pick (.tmp 242) (.lit (.bool true)) (.tmp 244)⟩,
     ⟨(some 246), none, .mov (.tmp 245)⟩,
     ⟨(some 247), (some (246, false)), .mov (.tmp 33)⟩,
     ⟨(some 248), (some (246, false)), .bin .neq (.tmp 247) (.lit (.int .i64 0))⟩,
     ⟨(some 249), none, .pick (.tmp 246) (.lit (.bool true)) (.tmp 248)⟩,
     ⟨(some 250), none, .mov (.tmp 249)⟩,
     ⟨(some 251), (some (250, false)), .mov (.tmp 31)⟩,
     ⟨(some 252), (some (250, false)), .mov (.tmp 28)⟩,
     ⟨(some 253), (some (250, false)), .bin .lss (.tmp 251) (.tmp 252)⟩,
     ⟨(some 254), none, .pick (.tmp 250) (.lit (.bool true)) (.tmp 253)⟩])
  (.cond (.tmp 254) (.seq (.reg [⟨(some 6), none, .mov (.lit (.bool false))⟩])
   (.ret))
    (.skip)))
 (.seq (.seq (.reg [⟨(some 255), none, .faddr 0 (.tmp 3)⟩,
     ⟨(some 256), none, .load false 1 (.tmp 255)⟩,
     ⟨(some 257), none, .len (.tmp 256)⟩,
     ⟨(some 258), none, .mov (.lit (.int .i64 0))⟩])
  (.block 6 (.loop (.seq (.reg [⟨(some 259), none, .bin .lss (.tmp 258) (.tmp 257)⟩])
   (.seq (.cond (.tmp 259) (.skip)
      (.exit 6))
   (.seq (.block 7 (.seq (.reg [⟨(some 260), none, .mov (.tmp 258)⟩,
       ⟨(some 34), none, .mov (.tmp 260)⟩])
    (.seq (.reg [⟨(some 262), none, .load true 3 (.tmp 3)⟩,
       ⟨(some 263), none, .mov (.tmp 34)⟩,
       ⟨(some 264), none, .call (.fn 17) [(.tmp 262), (.tmp 263)]⟩,
       ⟨(some 261), none, .mov (.tmp 264)⟩,
       ⟨(some 265), none, .ext (.tmp 261) 0⟩,
       ⟨(some 266), none, .ext (.tmp 261) 1⟩,
       ⟨(some 35), none, .alloc [(.int .i64 0), (.int .i64 0)]⟩,
       ⟨none, none, .store 2 (.tmp 35) (.tmp 265)⟩,
       ⟨(some 36), none, .mov (.tmp 266)⟩])
    (.seq (.reg [⟨(some 268), none, .load true 3 (.tmp 7)⟩,
       ⟨(some 269), none, .mov (.tmp 34)⟩,
       ⟨(some 270), none, .call (.fn 17) [(.tmp 268), (.tmp 269)]⟩,
       ⟨(some 267), none, .mov (.tmp 270)⟩,
       ⟨(some 271), none, .ext (.tmp 267) 0⟩,
       ⟨(some 272), none, .ext (.tmp 267) 1⟩,
       ⟨(some 37), none, .alloc [(.int .i64 0), (.int .i64 0)]⟩,
       ⟨none, none, .store 2 (.tmp 37) (.tmp 271)⟩,
       ⟨(some 38), none, .mov (.tmp 272)⟩])
    (.seq (.reg [⟨(some 273), none, .mov (.tmp 36)⟩,
       ⟨(some 274), none, .bin .neq (.tmp 273) (.lit (.int .i64 0))⟩,
       ⟨(some 275), none, .mov (.tmp 274)⟩,
       ⟨(some 276), (some (275, false)), .mov (.tmp 38)⟩,
       ⟨(some 277), (some (275, false)), .bin .neq (.tmp 276) (.lit (.int .i64 0))⟩,
       ⟨(some 278), none, .pick (.tmp 275) (.lit (.bool true)) (.tmp 277)⟩,
       ⟨(some 279), none, .mov (.tmp 278)⟩,
       ⟨(some 280), (some (279, false)), .mov (.tmp 17)⟩,
       ⟨(some 281), (some (279, false)), .load true 2 (.tmp 37)⟩,
       ⟨(some 282), (some (279, false)), .load true 2 (.tmp 35)⟩,
       ⟨(some 283), (some (279, false)), .call (.tmp 280) [(.tmp 281), (.tmp 282)]⟩,
       ⟨(some 284), (some (279, false)), .un .not (.tmp 283)⟩,
       ⟨(some 285), none, .pick (.tmp 279) (.lit (.bool true)) (.tmp 284)⟩])
    (.cond (.tmp 285) (.seq (.reg [⟨(some 6), none, .mov (.lit (.bool false))⟩])
     (.ret))
      (.skip)))))))
   (.reg [⟨(some 286), none, .bin .add (.tmp 258) (.lit (.int .i64 1))⟩,
     ⟨(some 258), none, .mov (.tmp 286)⟩])))))))
 (.seq (.reg [⟨(some 287), none, .call (.fn 14) []⟩,
    ⟨(some 6), none, .mov (.tmp 287)⟩])
 (.ret))))))))))))))))))))))))
theorem k11 : FnC Try.prog 11 288 [] [] [.tmp 6] c11 3 := ⟨Try.f11, _, Try.func11, rfl, by decide, rfl, by decide, by kernel_rfl, by kernel_rfl⟩
end Go.Proofs.Yticdacdflemoiaa

/- TowelMore: the pointers that it makes. -/
namespace Go.Proofs.Yticdacdflemoiaa
open Go Go.Ab

/-- What a striking leaves as it is. -/
def KeepL (L : List E) : Prop := ∀ σ, L.map (E.gc [0, 1, 2, 3, 4] σ 12) = L
theorem KeepL.app {A B : List E} (h : KeepL A) (h' : KeepL B) : KeepL (A ++ B) := fun σ => by rw [List.map_append, h σ, h' σ]
theorem KeepL.cons {a : E} {B : List E} (h : ∀ σ, E.gc [0, 1, 2, 3, 4] σ 12 a = a) (h' : KeepL B) : KeepL (a :: B) := fun σ => by rw [List.map_cons, h σ, h' σ]
theorem KeepL.nil : KeepL [] := fun _ => rfl
theorem KeepL.elt (id m es i off : Nat) (h : id < 5) : ∀ σ, E.gc [0, 1, 2, 3, 4] σ 12 (.elt id m es i off) = .elt id m es i off := by
  intro σ
  have : id = 0 ∨ id = 1 ∨ id = 2 ∨ id = 3 ∨ id = 4 := by omega
  rcases this with h | h | h | h | h <;> subst h <;> rfl
def ptrs (id m es k : Nat) : List E := (List.range k).map fun i => .elt id m es i 0

theorem ptrs_succ (id m es k : Nat) : ptrs id m es (k + 1) = ptrs id m es k ++ [.elt id m es k 0] := by simp [ptrs, List.range_succ]
theorem ptrs_len (id m es k : Nat) : (ptrs id m es k).length = k := by simp [ptrs]
theorem ptrs_keep (id m es k : Nat) (h : id < 5) : KeepL (ptrs id m es k) := by
  intro σ
  unfold ptrs
  rw [List.map_map]
  refine List.map_congr_left fun i _ => KeepL.elt id m es i 0 h σ
def ptrsB (n k : Nat) : List E := (List.range k).flatMap fun i => [.elt 3 n 6 i 2, .elt 3 n 6 i 4]
theorem ptrsB_succ (n k : Nat) : ptrsB n (k + 1) = ptrsB n k ++ [.elt 3 n 6 k 2, .elt 3 n 6 k 4] := by simp [ptrsB, List.range_succ]
theorem ptrsB_len (n k : Nat) : (ptrsB n k).length = 2 * k := by
  induction k with
  | zero => rfl
  | succ k ih => rw [ptrsB_succ, List.length_append, ih]; simp; omega
theorem ptrsB_keep (n k : Nat) : KeepL (ptrsB n k) := by
  induction k with
  | zero => exact KeepL.nil
  | succ k ih => rw [ptrsB_succ]; exact ih.app ((KeepL.cons (KeepL.elt 3 n 6 k 2 (by omega))) ((KeepL.cons (KeepL.elt 3 n 6 k 4 (by omega))) KeepL.nil))

theorem in43_ok (a b c d : Int) : ACall Try.prog 43 [.t (.agg [vi a, vi b]), .t (.agg [vi c, vi d])] [] (ret (vb (decide (a ≥ c) && decide (b ≤ d)))) := by
  refine ACall.walk k43 ?_
  unfold c43
  simp only [go_sem, Nat.reduceEqDiff, Nat.reduceAdd, Nat.reduceSub, Nat.reduceMul, Nat.reduceLT, Nat.reduceLeDiff, Nat.reduceMod, Nat.reduceDiv, Int.reduceToNat, Int.reduceLT, Int.reduceLE, Bool.not_true, Bool.not_false, reduceIte]
  cases hA : decide (a ≥ c)
  · simp only [go_sem, Nat.reduceEqDiff, Nat.reduceAdd, Nat.reduceSub, Nat.reduceMul, Nat.reduceLT, Nat.reduceLeDiff, Nat.reduceMod, Nat.reduceDiv, Int.reduceToNat, Int.reduceLT, Int.reduceLE, Bool.not_true, Bool.not_false, reduceIte, Int.reduceEq, Int.reduceBEq, Int.reduceBNe, Int.reduceGT, Int.reduceGE, Int.reduceNeg, Int.reduceAdd, Int.reduceSub, Nat.reduceBEq, decide_true, decide_false, undef, beq_self_eq_true, bne_self_eq_false, Bool.and_true, Bool.true_and, Bool.and_false, Bool.false_and, Bool.or_true, Bool.true_or, Bool.or_false, Bool.false_or, hA]
    exact finL_ret [] ⟨rfl, rfl, rfl, rfl, _, rfl, res_mk rfl⟩
  · simp only [go_sem, Nat.reduceEqDiff, Nat.reduceAdd, Nat.reduceSub, Nat.reduceMul, Nat.reduceLT, Nat.reduceLeDiff, Nat.reduceMod, Nat.reduceDiv, Int.reduceToNat, Int.reduceLT, Int.reduceLE, Bool.not_true, Bool.not_false, reduceIte, Int.reduceEq, Int.reduceBEq, Int.reduceBNe, Int.reduceGT, Int.reduceGE, Int.reduceNeg, Int.reduceAdd, Int.reduceSub, Nat.reduceBEq, decide_true, decide_false, undef, beq_self_eq_true, bne_self_eq_false, Bool.and_true, Bool.true_and, Bool.and_false, Bool.false_and, Bool.or_true, Bool.true_or, Bool.or_false, Bool.false_or, hA]
    exact finL_ret [] ⟨rfl, rfl, rfl, rfl, _, rfl, res_mk rfl⟩

def nrw (e : Bool) (s : Int × Int) : Int × Int := if e then (min s.2 (s.1 + 1), s.2) else (s.1, max s.1 (s.2 - 1))
theorem nrw_in (e : Bool) (s : Int × Int) (h : s.1 ≤ s.2) : s.1 ≤ (nrw e s).1 ∧ (nrw e s).2 ≤ s.2 := by
  cases e <;> simp [nrw] <;> omega

theorem set_is {α : Type} {l : List α} {q i : Nat} {s s' b c : α} (hs : l[q]? = some s) (hb : l[i]? = some b) (hc : (l.set q s')[i]? = some c) : (i = q ∧ b = s ∧ c = s') ∨ c = b := by
  by_cases h : i = q
  · subst h
    rw [List.getElem?_set_self (List.getElem?_eq_some_iff.1 hs).1] at hc
    rw [hs] at hb
    exact .inl ⟨rfl, (Option.some.inj hb).symm, (Option.some.inj hc).symm⟩
  · rw [List.getElem?_set_ne (by omega), hb] at hc
    exact .inr (Option.some.inj hc).symm

theorem Narrow.refl (t : Tw) : Narrow t t := by
  refine ⟨rfl, rfl, rfl, rfl, ?_, ?_, ?_⟩
  all_goals
    intro i b c hb hc
    rw [hb] at hc
    cases hc
    refine ⟨?_, ?_⟩ <;> first | omega | exact ⟨by omega, by omega, by omega⟩
theorem Narrow.setH {t : Tw} {q : Nat} {s s' : Int × Int} (hs : t.hs[q]? = some s) (h : s.1 ≤ s'.1 ∧ s'.2 ≤ s.2) : Narrow t { t with hs := t.hs.set q s' } := by
  have R := Narrow.refl t
  refine ⟨rfl, by simp, rfl, rfl, R.word, fun i b c hb hc => ?_, R.half⟩
  rcases set_is hs hb hc with ⟨_, rfl, rfl⟩ | rfl
  · exact h
  · omega
theorem Narrow.setV {t : Tw} {q : Nat} {s s' : Int × Int} (hs : t.vs[q]? = some s) (h : s.1 ≤ s'.1 ∧ s'.2 ≤ s.2) : Narrow t { t with vs := t.vs.set q s' } := by
  have R := Narrow.refl t
  refine ⟨rfl, rfl, by simp, rfl, R.word, R.hut, fun i b c hb hc => ?_⟩
  rcases set_is hs hb hc with ⟨_, rfl, rfl⟩ | rfl
  · exact h
  · omega
theorem Narrow.setB {t : Tw} {q : Nat} {s s' : B} (hs : t.bs[q]? = some s) (hp : posB s' = posB s) (h : s.ll ≤ s'.ll ∧ s'.lh ≤ s.lh ∧ s.bl ≤ s'.bl ∧ s'.bh ≤ s.bh) : Narrow t { t with bs := t.bs.set q s' } := by
  have R := Narrow.refl t
  refine ⟨by simp, rfl, rfl, ?_, fun i b c hb hc => ?_, R.hut, R.half⟩
  · obtain ⟨hk, e⟩ := List.getElem?_eq_some_iff.1 hs
    simp only [List.map_set]
    have : posB s' = (t.bs.map posB)[q]'(by simpa using hk) := by rw [List.getElem_map, e, hp]
    rw [this, List.set_getElem_self]
  · rcases set_is hs hb hc with ⟨_, rfl, rfl⟩ | rfl
    · exact h
    · omega

/-- Where a pointer points to. -/
theorem ptr_at (hl vl n q : Nat) (h : q < hl + vl + 2 * n) : (q < hl ∧ (ptrs 1 hl 2 hl ++ ptrs 2 vl 2 vl ++ ptrsB n n)[q]? = some (.elt 1 hl 2 q 0)) ∨
    (∃ i, i < vl ∧ (ptrs 1 hl 2 hl ++ ptrs 2 vl 2 vl ++ ptrsB n n)[q]? = some (.elt 2 vl 2 i 0)) ∨
    (∃ i, i < n ∧ ((ptrs 1 hl 2 hl ++ ptrs 2 vl 2 vl ++ ptrsB n n)[q]? = some (.elt 3 n 6 i 2) ∨ (ptrs 1 hl 2 hl ++ ptrs 2 vl 2 vl ++ ptrsB n n)[q]? = some (.elt 3 n 6 i 4))) := by
  have l1 := ptrs_len 1 hl 2 hl
  have l2 := ptrs_len 2 vl 2 vl
  have hp : ∀ (id m k i : Nat), i < k → (ptrs id m 2 k)[i]? = some (.elt id m 2 i 0) := fun id m k i hi => by
    unfold ptrs
    rw [List.getElem?_map, List.getElem?_range hi]
    rfl
  by_cases h1 : q < hl
  · left
    refine ⟨h1, ?_⟩
    rw [List.append_assoc, List.getElem?_append_left (by omega), hp _ _ _ _ h1]
  · right
    by_cases h2 : q < hl + vl
    · left
      refine ⟨q - hl, by omega, ?_⟩
      rw [List.append_assoc, List.getElem?_append_right (by omega), l1, List.getElem?_append_left (by omega), hp _ _ _ _ (by omega)]
    · right
      have hB : ∀ k r, r < 2 * k → (ptrsB n k)[r]? = some (.elt 3 n 6 (r / 2) (2 + 2 * (r % 2))) := by
        intro k
        induction k with
        | zero => intro r hr; omega
        | succ k ih =>
          intro r hr
          have lk := ptrsB_len n k
          rw [ptrsB_succ]
          by_cases hr2 : r < 2 * k
          · rw [List.getElem?_append_left (by omega), ih r hr2]
          · rw [List.getElem?_append_right (by omega), lk]
            have : r = 2 * k ∨ r = 2 * k + 1 := by omega
            rcases this with h | h
            · subst h
              rw [Nat.sub_self, show 2 * k / 2 = k by omega, show 2 * k % 2 = 0 by omega]
              rfl
            · subst h
              rw [show 2 * k + 1 - 2 * k = 1 by omega, show (2 * k + 1) / 2 = k by omega, show (2 * k + 1) % 2 = 1 by omega]
              rfl
      have e := hB n (q - (hl + vl)) (by omega)
      have l3 : (ptrs 1 hl 2 hl ++ ptrs 2 vl 2 vl).length = hl + vl := by rw [List.length_append, l1, l2]
      rw [List.getElem?_append_right (by omega), l3, e]
      refine ⟨(q - (hl + vl)) / 2, by omega, ?_⟩
      have : (q - (hl + vl)) % 2 = 0 ∨ (q - (hl + vl)) % 2 = 1 := by omega
      rcases this with h | h
      · rw [h]; exact .inl rfl
      · rw [h]; exact .inr rfl

set_option maxRecDepth 8000 in
set_option maxHeartbeats 4000000 in
theorem TowelMore_ok (t : Tw) (u : Nat) (hu : u < 256) (w : Nat) (hw : w < 256) : ACall Try.prog 11 [.t (.agg (tw3 t)), .t (.lit (.int .u8 u)), .t (.lit (.int .u8 w))] [] (res (.ret (.t (vb true)))) := by
  refine ACall.walk k11 ?_
  unfold c11
  refine awpL_chop 2 (c1 := ?c1) (c2 := ?c2) (fun s => t.ok = true ∧ s.σ = [.cells ((tw3 t).map .t)] ∧ lk s.env 3 = .ptr 0 0 ∧ lk s.env 1 = .t (.lit (.int .u8 u)) ∧ lk s.env 2 = .t (.lit (.int .u8 w)) ∧ s.df = [] ∧ s.k = 0) ?hc ?_ ?_
  case hc => simp only [chop]; rfl
  · unfold tw3
    simp only [go_sem, Nat.reduceEqDiff, Nat.reduceAdd, Nat.reduceSub, Nat.reduceMul, Nat.reduceLT, Nat.reduceLeDiff, Nat.reduceMod, Nat.reduceDiv, Int.reduceToNat, Int.reduceLT, Int.reduceLE, Bool.not_true, Bool.not_false, reduceIte]
    refine ACallL.quiet1 (fine_ok t) rfl rfl rfl ?_
    cases hF : (!(farB t) && t.ok)
    · simp only [go_sem, Nat.reduceEqDiff, Nat.reduceAdd, Nat.reduceSub, Nat.reduceMul, Nat.reduceLT, Nat.reduceLeDiff, Nat.reduceMod, Nat.reduceDiv, Int.reduceToNat, Int.reduceLT, Int.reduceLE, Bool.not_true, Bool.not_false, reduceIte, Int.reduceEq, Int.reduceBEq, Int.reduceBNe, Int.reduceGT, Int.reduceGE, Int.reduceNeg, Int.reduceAdd, Int.reduceSub, Nat.reduceBEq, decide_true, decide_false, undef, beq_self_eq_true, bne_self_eq_false, Bool.and_true, Bool.true_and, Bool.and_false, Bool.false_and, Bool.or_true, Bool.true_or, Bool.or_false, Bool.false_or]
      refine ACallL.quiet1 awake_ok rfl rfl rfl ?_
      simp only [go_sem, Nat.reduceEqDiff, Nat.reduceAdd, Nat.reduceSub, Nat.reduceMul, Nat.reduceLT, Nat.reduceLeDiff, Nat.reduceMod, Nat.reduceDiv, Int.reduceToNat, Int.reduceLT, Int.reduceLE, Bool.not_true, Bool.not_false, reduceIte, Int.reduceEq, Int.reduceBEq, Int.reduceBNe, Int.reduceGT, Int.reduceGE, Int.reduceNeg, Int.reduceAdd, Int.reduceSub, Nat.reduceBEq, decide_true, decide_false, undef, beq_self_eq_true, bne_self_eq_false, Bool.and_true, Bool.true_and, Bool.and_false, Bool.false_and, Bool.or_true, Bool.true_or, Bool.or_false, Bool.false_or]
      exact finL_ret [] ⟨rfl, rfl, rfl, rfl, _, rfl, res_mk rfl⟩
    · have hok : t.ok = true := by cases h : t.ok <;> simp_all
      simp only [go_sem, Nat.reduceEqDiff, Nat.reduceAdd, Nat.reduceSub, Nat.reduceMul, Nat.reduceLT, Nat.reduceLeDiff, Nat.reduceMod, Nat.reduceDiv, Int.reduceToNat, Int.reduceLT, Int.reduceLE, Bool.not_true, Bool.not_false, reduceIte, Int.reduceEq, Int.reduceBEq, Int.reduceBNe, Int.reduceGT, Int.reduceGE, Int.reduceNeg, Int.reduceAdd, Int.reduceSub, Nat.reduceBEq, decide_true, decide_false, undef, beq_self_eq_true, bne_self_eq_false, Bool.and_true, Bool.true_and, Bool.and_false, Bool.false_and, Bool.or_true, Bool.true_or, Bool.or_false, Bool.false_or]
      exact hok
  rintro ⟨env, σ, df, k⟩ ⟨hok, hσ, h3, h1, h2, hdf, hk⟩
  simp only at hσ h3 h1 h2 hdf hk
  subst hσ hdf hk
  have ht := (Tw.ok_iff t).1 hok
  have hnb := ht.nb
  have hnh := ht.nh
  have hnv := ht.nv
  refine awpL_chop 4 (c1 := ?d1) (c2 := ?d2) (fun s => s = { env := [(63, .t (vb false)), (62, .t (vi t.hs.length)), (61, .t (vi t.hs.length)), (7, .ptr 0 0), (8, .loc 4 t.hs.length), (3, .t (.ptr (.agg (tw3 t)) 0)), (1, .t (.lit (.int .u8 u))), (2, .t (.lit (.int .u8 w)))], σ := [.cells [.loc 3 t.bs.length, .loc 1 t.hs.length, .loc 2 t.vs.length], rowS t.hs, rowS t.vs, rowB t.bs, .row 1 (ptrs 1 t.hs.length 2 t.hs.length)] }) ?hc2 ?_ ?_
  case hc2 => simp only [chop]; rfl
  · unfold tw3
    simp only [go_sem, Nat.reduceEqDiff, Nat.reduceAdd, Nat.reduceSub, Nat.reduceMul, Nat.reduceLT, Nat.reduceLeDiff, Nat.reduceMod, Nat.reduceDiv, Int.reduceToNat, Int.reduceLT, Int.reduceLE, Bool.not_true, Bool.not_false, reduceIte, h3]
    repeat' (first | refine AndL.mk ?_ ?_ | refine ⟨⟨by omega, by omega⟩, ?_⟩ | simp only [go_sem, Nat.reduceEqDiff, Nat.reduceAdd, Nat.reduceSub, Nat.reduceMul, Nat.reduceLT, Nat.reduceLeDiff, Nat.reduceMod, Nat.reduceDiv, Int.reduceToNat, Int.reduceLT, Int.reduceLE, Bool.not_true, Bool.not_false, reduceIte, h3, List.length_map, maxLen])
    all_goals
      refine awpL_for (i := 62) (L := 61) t.hs.length (fun k s => s = { env := [(62, .t (vi k)), (61, .t (vi t.hs.length)), (7, .ptr 0 0), (8, .loc 4 k), (3, .t (.ptr (.agg (tw3 t)) 0)), (1, .t (.lit (.int .u8 u))), (2, .t (.lit (.int .u8 w)))], σ := [.cells [.loc 3 t.bs.length, .loc 1 t.hs.length, .loc 2 t.vs.length], rowS t.hs, rowS t.vs, rowB t.bs, .row 1 (ptrs 1 t.hs.length 2 k)] })
        ?_ ?_ ?_ ?_
      · rintro k s rfl; exact ⟨rfl, rfl⟩
      · first
        | exact ⟨_, (Sub.ghost 8 1 (by decide) rfl).trans (Sub.gc [1, 2, 3, 4, 5] [62, 61, 7, 8, 3, 1, 2] rfl rfl), St.gc_mk (by simp only [List.map_cons, List.map_nil, lk, Nat.reduceEqDiff, reduceIte, h1, h2, h3]; rfl) (by simp only [rowS, rowB, List.cons_append, List.nil_append, σgc, AO.gc, List.map_cons, List.map_nil, List.getD_cons_zero, List.getD_cons_succ, List.map_append, gc_t, gc_row]; rfl) rfl rfl⟩
        | exact ⟨_, (Sub.ghost 8 1 (by decide) rfl).trans (Sub.gc [1, 2, 4, 3, 5] [62, 61, 7, 8, 3, 1, 2] rfl rfl), St.gc_mk (by simp only [List.map_cons, List.map_nil, lk, Nat.reduceEqDiff, reduceIte, h1, h2, h3]; rfl) (by simp only [rowS, rowB, List.cons_append, List.nil_append, σgc, AO.gc, List.map_cons, List.map_nil, List.getD_cons_zero, List.getD_cons_succ, List.map_append, gc_t, gc_row]; rfl) rfl rfl⟩
        | exact ⟨_, (Sub.ghost 8 1 (by decide) rfl).trans (Sub.gc [1, 3, 2, 4, 5] [62, 61, 7, 8, 3, 1, 2] rfl rfl), St.gc_mk (by simp only [List.map_cons, List.map_nil, lk, Nat.reduceEqDiff, reduceIte, h1, h2, h3]; rfl) (by simp only [rowS, rowB, List.cons_append, List.nil_append, σgc, AO.gc, List.map_cons, List.map_nil, List.getD_cons_zero, List.getD_cons_succ, List.map_append, gc_t, gc_row]; rfl) rfl rfl⟩
        | exact ⟨_, (Sub.ghost 8 1 (by decide) rfl).trans (Sub.gc [1, 3, 4, 2, 5] [62, 61, 7, 8, 3, 1, 2] rfl rfl), St.gc_mk (by simp only [List.map_cons, List.map_nil, lk, Nat.reduceEqDiff, reduceIte, h1, h2, h3]; rfl) (by simp only [rowS, rowB, List.cons_append, List.nil_append, σgc, AO.gc, List.map_cons, List.map_nil, List.getD_cons_zero, List.getD_cons_succ, List.map_append, gc_t, gc_row]; rfl) rfl rfl⟩
        | exact ⟨_, (Sub.ghost 8 1 (by decide) rfl).trans (Sub.gc [1, 4, 2, 3, 5] [62, 61, 7, 8, 3, 1, 2] rfl rfl), St.gc_mk (by simp only [List.map_cons, List.map_nil, lk, Nat.reduceEqDiff, reduceIte, h1, h2, h3]; rfl) (by simp only [rowS, rowB, List.cons_append, List.nil_append, σgc, AO.gc, List.map_cons, List.map_nil, List.getD_cons_zero, List.getD_cons_succ, List.map_append, gc_t, gc_row]; rfl) rfl rfl⟩
        | exact ⟨_, (Sub.ghost 8 1 (by decide) rfl).trans (Sub.gc [1, 4, 3, 2, 5] [62, 61, 7, 8, 3, 1, 2] rfl rfl), St.gc_mk (by simp only [List.map_cons, List.map_nil, lk, Nat.reduceEqDiff, reduceIte, h1, h2, h3]; rfl) (by simp only [rowS, rowB, List.cons_append, List.nil_append, σgc, AO.gc, List.map_cons, List.map_nil, List.getD_cons_zero, List.getD_cons_succ, List.map_append, gc_t, gc_row]; rfl) rfl rfl⟩
      · rintro k s hk rfl
        have hw : IntKind.i64.wrap ((k : Int) + 1) = ((k + 1 : Nat) : Int) := by rw [wrap_id (by omega) (by omega)]; omega
        have hlt : (k : Int) < t.hs.length := by omega
        have hlen := ptrs_len 1 t.hs.length 2 k
        have hkeep := ptrs_keep 1 t.hs.length 2 k (by omega)
        rw [ptrs_succ]
        generalize ptrs 1 t.hs.length 2 k = L at *
        simp only [rowS, rowB, go_sem, Nat.reduceEqDiff, Nat.reduceAdd, Nat.reduceSub, Nat.reduceMul, Nat.reduceLT, Nat.reduceLeDiff, Nat.reduceMod, Nat.reduceDiv, Int.reduceToNat, Int.reduceLT, Int.reduceLE, Bool.not_true, Bool.not_false, reduceIte, List.length_map, nat_neg, hlen, maxLen, hw]
        refine ⟨hlt, ⟨by omega, by omega⟩, _, Sub.gc [0, 1, 2, 3, 4] [62, 61, 7, 8, 3, 1, 2] rfl rfl, ?_⟩
        exact St.gc_mk rfl (by simp only [List.cons_append, List.nil_append, σgc, AO.gc, List.map_cons, List.map_nil, List.getD_cons_zero, List.getD_cons_succ, List.map_append, gc_t, gc_row, hkeep _]; rfl) rfl rfl
      · rintro s rfl
        rfl
  rintro s rfl
  refine awpL_chop 1 (c1 := ?e1) (c2 := ?e2) (fun s => s = { env := [(77, .t (vb false)), (76, .t (vi t.vs.length)), (75, .t (vi t.vs.length)), (7, .ptr 0 0), (8, .loc 4 (t.hs.length + t.vs.length)), (3, .t (.ptr (.agg (tw3 t)) 0)), (1, .t (.lit (.int .u8 u))), (2, .t (.lit (.int .u8 w)))], σ := [.cells [.loc 3 t.bs.length, .loc 1 t.hs.length, .loc 2 t.vs.length], rowS t.hs, rowS t.vs, rowB t.bs, .row 1 (ptrs 1 t.hs.length 2 t.hs.length ++ ptrs 2 t.vs.length 2 t.vs.length)] }) ?hc3 ?_ ?_
  case hc3 => simp only [chop]; rfl
  · simp only [rowS, rowB, go_sem, Nat.reduceEqDiff, Nat.reduceAdd, Nat.reduceSub, Nat.reduceMul, Nat.reduceLT, Nat.reduceLeDiff, Nat.reduceMod, Nat.reduceDiv, Int.reduceToNat, Int.reduceLT, Int.reduceLE, Bool.not_true, Bool.not_false, reduceIte, List.length_map]
    refine awpL_for (i := 76) (L := 75) t.vs.length (fun k s => s = { env := [(76, .t (vi k)), (75, .t (vi t.vs.length)), (7, .ptr 0 0), (8, .loc 4 (t.hs.length + k)), (3, .t (.ptr (.agg (tw3 t)) 0)), (1, .t (.lit (.int .u8 u))), (2, .t (.lit (.int .u8 w)))], σ := [.cells [.loc 3 t.bs.length, .loc 1 t.hs.length, .loc 2 t.vs.length], rowS t.hs, rowS t.vs, rowB t.bs, .row 1 (ptrs 1 t.hs.length 2 t.hs.length ++ ptrs 2 t.vs.length 2 k)] })
      ?_ ?_ ?_ ?_
    · rintro k s rfl; exact ⟨rfl, rfl⟩
    · have hkeep := ptrs_keep 1 t.hs.length 2 t.hs.length (by omega)
      refine ⟨_, Sub.gc [0, 1, 2, 3, 4] [76, 75, 7, 8, 3, 1, 2] rfl rfl, ?_⟩
      have e : ptrs 2 t.vs.length 2 0 = [] := rfl
      rw [e, List.append_nil]
      generalize ptrs 1 t.hs.length 2 t.hs.length = L at *
      exact St.gc_mk rfl (by simp only [rowS, rowB, List.cons_append, List.nil_append, σgc, AO.gc, List.map_cons, List.map_nil, List.getD_cons_zero, List.getD_cons_succ, List.map_append, gc_t, gc_row, hkeep _]; rfl) rfl rfl
    · rintro k s hk rfl
      have hw : IntKind.i64.wrap ((k : Int) + 1) = ((k + 1 : Nat) : Int) := by rw [wrap_id (by omega) (by omega)]; omega
      have hlt : (k : Int) < t.vs.length := by omega
      have hlen : (ptrs 1 t.hs.length 2 t.hs.length ++ ptrs 2 t.vs.length 2 k).length = t.hs.length + k := by rw [List.length_append, ptrs_len, ptrs_len]
      have hkeep := (ptrs_keep 1 t.hs.length 2 t.hs.length (by omega)).app (ptrs_keep 2 t.vs.length 2 k (by omega))
      rw [ptrs_succ, ← List.append_assoc]
      generalize ptrs 1 t.hs.length 2 t.hs.length ++ ptrs 2 t.vs.length 2 k = L at *
      simp only [rowS, rowB, go_sem, Nat.reduceEqDiff, Nat.reduceAdd, Nat.reduceSub, Nat.reduceMul, Nat.reduceLT, Nat.reduceLeDiff, Nat.reduceMod, Nat.reduceDiv, Int.reduceToNat, Int.reduceLT, Int.reduceLE, Bool.not_true, Bool.not_false, reduceIte, List.length_map, nat_neg, hlen, maxLen, hw]
      refine ⟨hlt, ⟨by omega, by omega⟩, _, Sub.gc [0, 1, 2, 3, 4] [76, 75, 7, 8, 3, 1, 2] rfl rfl, ?_⟩
      exact St.gc_mk rfl (by simp only [List.cons_append, List.nil_append, σgc, AO.gc, List.map_cons, List.map_nil, List.getD_cons_zero, List.getD_cons_succ, List.map_append, gc_t, gc_row, hkeep _]; rfl) rfl rfl
    · rintro s rfl
      rfl
  rintro s rfl
  generalize hL0 : ptrs 1 t.hs.length 2 t.hs.length ++ ptrs 2 t.vs.length 2 t.vs.length = L0
  have hL0l : L0.length = t.hs.length + t.vs.length := by rw [← hL0, List.length_append, ptrs_len, ptrs_len]
  have hL0k : KeepL L0 := by rw [← hL0]; exact (ptrs_keep 1 t.hs.length 2 t.hs.length (by omega)).app (ptrs_keep 2 t.vs.length 2 t.vs.length (by omega))
  refine awpL_chop 1 (c1 := ?f1) (c2 := ?f2) (fun s => s = { env := [(91, .t (vb false)), (90, .t (vi t.bs.length)), (89, .t (vi t.bs.length)), (7, .ptr 0 0), (8, .loc 4 (t.hs.length + t.vs.length + 2 * t.bs.length)), (3, .t (.ptr (.agg (tw3 t)) 0)), (1, .t (.lit (.int .u8 u))), (2, .t (.lit (.int .u8 w)))], σ := [.cells [.loc 3 t.bs.length, .loc 1 t.hs.length, .loc 2 t.vs.length], rowS t.hs, rowS t.vs, rowB t.bs, .row 1 (L0 ++ ptrsB t.bs.length t.bs.length)] }) ?hc4 ?_ ?_
  case hc4 => simp only [chop]; rfl
  · simp only [rowS, rowB, go_sem, Nat.reduceEqDiff, Nat.reduceAdd, Nat.reduceSub, Nat.reduceMul, Nat.reduceLT, Nat.reduceLeDiff, Nat.reduceMod, Nat.reduceDiv, Int.reduceToNat, Int.reduceLT, Int.reduceLE, Bool.not_true, Bool.not_false, reduceIte, List.length_map]
    refine awpL_for (i := 90) (L := 89) t.bs.length (fun k s => s = { env := [(90, .t (vi k)), (89, .t (vi t.bs.length)), (7, .ptr 0 0), (8, .loc 4 (t.hs.length + t.vs.length + 2 * k)), (3, .t (.ptr (.agg (tw3 t)) 0)), (1, .t (.lit (.int .u8 u))), (2, .t (.lit (.int .u8 w)))], σ := [.cells [.loc 3 t.bs.length, .loc 1 t.hs.length, .loc 2 t.vs.length], rowS t.hs, rowS t.vs, rowB t.bs, .row 1 (L0 ++ ptrsB t.bs.length k)] })
      ?_ ?_ ?_ ?_
    · rintro k s rfl; exact ⟨rfl, rfl⟩
    · refine ⟨_, Sub.gc [0, 1, 2, 3, 4] [90, 89, 7, 8, 3, 1, 2] rfl rfl, ?_⟩
      have e : ptrsB t.bs.length 0 = [] := rfl
      rw [e, List.append_nil]
      exact St.gc_mk rfl (by simp only [rowS, rowB, List.cons_append, List.nil_append, σgc, AO.gc, List.map_cons, List.map_nil, List.getD_cons_zero, List.getD_cons_succ, List.map_append, gc_t, gc_row, hL0k _]; rfl) rfl rfl
    · rintro k s hk rfl
      have hw : IntKind.i64.wrap ((k : Int) + 1) = ((k + 1 : Nat) : Int) := by rw [wrap_id (by omega) (by omega)]; omega
      have hlt : (k : Int) < t.bs.length := by omega
      have hlen : (L0 ++ ptrsB t.bs.length k).length = t.hs.length + t.vs.length + 2 * k := by rw [List.length_append, hL0l, ptrsB_len]
      have hkeep := hL0k.app (ptrsB_keep t.bs.length k)
      have hL2 : t.hs.length + t.vs.length + 2 * (k + 1) = t.hs.length + t.vs.length + 2 * k + 2 := by omega
      rw [ptrsB_succ, ← List.append_assoc, hL2]
      generalize L0 ++ ptrsB t.bs.length k = L at *
      generalize hM : t.hs.length + t.vs.length + 2 * k = M at *
      simp only [rowS, rowB, go_sem, Nat.reduceEqDiff, Nat.reduceAdd, Nat.reduceSub, Nat.reduceMul, Nat.reduceLT, Nat.reduceLeDiff, Nat.reduceMod, Nat.reduceDiv, Int.reduceToNat, Int.reduceLT, Int.reduceLE, Bool.not_true, Bool.not_false, reduceIte, List.length_map, nat_neg, hlen, maxLen, hw]
      refine ⟨hlt, hlt, hlt, ⟨by omega, by omega⟩, hlt, _, Sub.gc [0, 1, 2, 3, 4] [90, 89, 7, 8, 3, 1, 2] rfl rfl, ?_⟩
      exact St.gc_mk rfl (by simp only [List.cons_append, List.nil_append, σgc, AO.gc, List.map_cons, List.map_nil, List.getD_cons_zero, List.getD_cons_succ, List.map_append, gc_t, gc_row, hkeep _]; rfl) rfl rfl
    · rintro s rfl
      rfl
  rintro s rfl
  have hat := ptr_at t.hs.length t.vs.length t.bs.length
  rw [hL0] at hat
  have hlen : (L0 ++ ptrsB t.bs.length t.bs.length).length = t.hs.length + t.vs.length + 2 * t.bs.length := by rw [List.length_append, hL0l, ptrsB_len]
  generalize L0 ++ ptrsB t.bs.length t.bs.length = L at *
  refine awpL_chop 1 (c1 := ?g1) (c2 := ?g2) (fun s => ∃ x, Narrow t x ∧ lk s.env 3 = .t (.ptr (.agg (tw3 t)) 0) ∧ lk s.env 7 = .ptr 0 0 ∧ s.σ = [.cells [.loc 3 x.bs.length, .loc 1 x.hs.length, .loc 2 x.vs.length], rowS x.hs, rowS x.vs, rowB x.bs, .row 1 L] ∧ s.df = [] ∧ s.k = 0) ?hc5 ?_ ?_
  case hc5 => simp only [chop]; rfl
  · generalize hM : t.hs.length + t.vs.length + 2 * t.bs.length = M at *
    simp only [rowS, rowB, go_sem, Nat.reduceEqDiff, Nat.reduceAdd, Nat.reduceSub, Nat.reduceMul, Nat.reduceLT, Nat.reduceLeDiff, Nat.reduceMod, Nat.reduceDiv, Int.reduceToNat, Int.reduceLT, Int.reduceLE, Bool.not_true, Bool.not_false, reduceIte, List.length_map, hlen]
    refine BrL.mk (fun hpos => ?_) (fun hpos => ?_)
    · have hpos : 0 < M := by have : (M : Int) > 0 := by simpa using hpos
                              omega
      have n0 : ¬ ((M : Int) = 0) := by omega
      have t1 : (w : Int).tmod M = ((w % M : Nat) : Int) := by rw [Int.tmod_eq_emod_of_nonneg (by omega)]; rfl
      have w0 : IntKind.i64.wrap (w : Int) = w := wrap_id (by omega) (by omega)
      have hq := Nat.mod_lt w hpos
      have hat := hat _ hq
      have hqi : ((w % M : Nat) : Int) < M := by omega
      generalize w % M = q at *
      simp only [go_sem, Nat.reduceEqDiff, Nat.reduceAdd, Nat.reduceSub, Nat.reduceMul, Nat.reduceLT, Nat.reduceLeDiff, Nat.reduceMod, Nat.reduceDiv, Int.reduceToNat, Int.reduceLT, Int.reduceLE, Bool.not_true, Bool.not_false, reduceIte, List.length_map, hlen, n0, t1, w0, hqi]
      rcases hat with ⟨h4, e⟩ | ⟨i, h4, e⟩ | ⟨i, h4, e | e⟩
      · have hs : t.hs[q]? = some t.hs[q] := List.getElem?_eq_getElem h4
        have hb := ht.hs _ (List.getElem_mem h4)
        generalize t.hs[q] = s at *
        have hn := nrw_in ((u : Int).tmod 2 == 0) s hb.2.1
        have hw1 : IntKind.i64.wrap (s.1 + 1) = s.1 + 1 := wrap_id (by omega) (by omega)
        have hw2 : IntKind.i64.wrap (s.2 - 1) = s.2 - 1 := wrap_id (by omega) (by omega)
        cases hE : ((u : Int).tmod 2 == 0)
        all_goals
          rw [hE] at hn
          simp only [go_sem, Nat.reduceEqDiff, Nat.reduceAdd, Nat.reduceSub, Nat.reduceMul, Nat.reduceLT, Nat.reduceLeDiff, Nat.reduceMod, Nat.reduceDiv, Int.reduceToNat, Int.reduceLT, Int.reduceLE, Bool.not_true, Bool.not_false, reduceIte, Int.reduceEq, Int.reduceBEq, Int.reduceBNe, Int.reduceGT, Int.reduceGE, Int.reduceNeg, Int.reduceAdd, Int.reduceSub, Nat.reduceBEq, decide_true, decide_false, undef, beq_self_eq_true, bne_self_eq_false, Bool.and_true, Bool.true_and, Bool.and_false, Bool.false_and, Bool.or_true, Bool.true_or, Bool.or_false, Bool.false_or, e, hE, List.length_map, List.length_set, List.getElem?_map, hs, tS, hw1, hw2]
          refine ⟨_, Narrow.setH hs hn, ?_⟩
          simp only [rowS, rowB, List.length_set, List.map_set]
          rfl
      · have hs : t.vs[i]? = some t.vs[i] := List.getElem?_eq_getElem h4
        have hb := ht.vs _ (List.getElem_mem h4)
        generalize t.vs[i] = s at *
        have hn := nrw_in ((u : Int).tmod 2 == 0) s hb.2.1
        have hw1 : IntKind.i64.wrap (s.1 + 1) = s.1 + 1 := wrap_id (by omega) (by omega)
        have hw2 : IntKind.i64.wrap (s.2 - 1) = s.2 - 1 := wrap_id (by omega) (by omega)
        cases hE : ((u : Int).tmod 2 == 0)
        all_goals
          rw [hE] at hn
          simp only [go_sem, Nat.reduceEqDiff, Nat.reduceAdd, Nat.reduceSub, Nat.reduceMul, Nat.reduceLT, Nat.reduceLeDiff, Nat.reduceMod, Nat.reduceDiv, Int.reduceToNat, Int.reduceLT, Int.reduceLE, Bool.not_true, Bool.not_false, reduceIte, Int.reduceEq, Int.reduceBEq, Int.reduceBNe, Int.reduceGT, Int.reduceGE, Int.reduceNeg, Int.reduceAdd, Int.reduceSub, Nat.reduceBEq, decide_true, decide_false, undef, beq_self_eq_true, bne_self_eq_false, Bool.and_true, Bool.true_and, Bool.and_false, Bool.false_and, Bool.or_true, Bool.true_or, Bool.or_false, Bool.false_or, e, hE, List.length_map, List.length_set, List.getElem?_map, hs, tS, hw1, hw2]
          refine ⟨_, Narrow.setV hs hn, ?_⟩
          simp only [rowS, rowB, List.length_set, List.map_set]
          rfl
      · have hs : t.bs[i]? = some t.bs[i] := List.getElem?_eq_getElem h4
        have hb := ht.bs _ (List.getElem_mem h4)
        generalize t.bs[i] = s at *
        have hn := nrw_in ((u : Int).tmod 2 == 0) (s.ll, s.lh) (by simp only; omega)
        have hw1 : IntKind.i64.wrap (s.ll + 1) = s.ll + 1 := wrap_id (by omega) (by omega)
        have hw2 : IntKind.i64.wrap (s.lh - 1) = s.lh - 1 := wrap_id (by omega) (by omega)
        have hN' := Narrow.setB (s' := { s with ll := (nrw ((u : Int).tmod 2 == 0) (s.ll, s.lh)).1, lh := (nrw ((u : Int).tmod 2 == 0) (s.ll, s.lh)).2 }) hs rfl (by simp only at hn ⊢; omega)
        cases hE : ((u : Int).tmod 2 == 0)
        all_goals
          rw [hE] at hN'
          simp only [go_sem, Nat.reduceEqDiff, Nat.reduceAdd, Nat.reduceSub, Nat.reduceMul, Nat.reduceLT, Nat.reduceLeDiff, Nat.reduceMod, Nat.reduceDiv, Int.reduceToNat, Int.reduceLT, Int.reduceLE, Bool.not_true, Bool.not_false, reduceIte, Int.reduceEq, Int.reduceBEq, Int.reduceBNe, Int.reduceGT, Int.reduceGE, Int.reduceNeg, Int.reduceAdd, Int.reduceSub, Nat.reduceBEq, decide_true, decide_false, undef, beq_self_eq_true, bne_self_eq_false, Bool.and_true, Bool.true_and, Bool.and_false, Bool.false_and, Bool.or_true, Bool.true_or, Bool.or_false, Bool.false_or, e, hE, List.length_map, List.length_set, List.getElem?_map, hs, tB, hw1, hw2]
          refine ⟨_, hN', ?_⟩
          simp only [rowS, rowB, List.length_set, List.map_set]
          rfl
      · have hs : t.bs[i]? = some t.bs[i] := List.getElem?_eq_getElem h4
        have hb := ht.bs _ (List.getElem_mem h4)
        generalize t.bs[i] = s at *
        have hn := nrw_in ((u : Int).tmod 2 == 0) (s.bl, s.bh) (by simp only; omega)
        have hw1 : IntKind.i64.wrap (s.bl + 1) = s.bl + 1 := wrap_id (by omega) (by omega)
        have hw2 : IntKind.i64.wrap (s.bh - 1) = s.bh - 1 := wrap_id (by omega) (by omega)
        have hN' := Narrow.setB (s' := { s with bl := (nrw ((u : Int).tmod 2 == 0) (s.bl, s.bh)).1, bh := (nrw ((u : Int).tmod 2 == 0) (s.bl, s.bh)).2 }) hs rfl (by simp only at hn ⊢; omega)
        cases hE : ((u : Int).tmod 2 == 0)
        all_goals
          rw [hE] at hN'
          simp only [go_sem, Nat.reduceEqDiff, Nat.reduceAdd, Nat.reduceSub, Nat.reduceMul, Nat.reduceLT, Nat.reduceLeDiff, Nat.reduceMod, Nat.reduceDiv, Int.reduceToNat, Int.reduceLT, Int.reduceLE, Bool.not_true, Bool.not_false, reduceIte, Int.reduceEq, Int.reduceBEq, Int.reduceBNe, Int.reduceGT, Int.reduceGE, Int.reduceNeg, Int.reduceAdd, Int.reduceSub, Nat.reduceBEq, decide_true, decide_false, undef, beq_self_eq_true, bne_self_eq_false, Bool.and_true, Bool.true_and, Bool.and_false, Bool.false_and, Bool.or_true, Bool.true_or, Bool.or_false, Bool.false_or, e, hE, List.length_map, List.length_set, List.getElem?_map, hs, tB, hw1, hw2]
          refine ⟨_, hN', ?_⟩
          simp only [rowS, rowB, List.length_set, List.map_set]
          rfl
    · simp only [hpos, go_sem, Nat.reduceEqDiff, Nat.reduceAdd, Nat.reduceSub, Nat.reduceMul, Nat.reduceLT, Nat.reduceLeDiff, Nat.reduceMod, Nat.reduceDiv, Int.reduceToNat, Int.reduceLT, Int.reduceLE, Bool.not_true, Bool.not_false, reduceIte]
      exact ⟨t, Narrow.refl t, rfl⟩
  rintro ⟨env2, σ2, df2, k2⟩ ⟨x, hN, h3', h7', hσ2, hdf2, hk2⟩
  simp only at h3' h7' hσ2 hdf2 hk2
  subst hσ2 hdf2 hk2
  have hgl : ∀ R : List AO, E.gc [] (AO.cells [.loc 3 x.bs.length, .loc 1 x.hs.length, .loc 2 x.vs.length] :: rowS x.hs :: rowS x.vs :: rowB x.bs :: R) 12 (.agg [.loc 3 x.bs.length, .loc 1 x.hs.length, .loc 2 x.vs.length]) = .t (.agg (tw3 x)) := fun R => by
    rw [E.gc]
    simp only [List.map_cons, List.map_nil]
    rw [gc_loc (n := 9) (xs := x.bs.map tB) rfl rfl (by simp), gc_loc (n := 9) (xs := x.hs.map tS) rfl rfl (by simp), gc_loc (n := 9) (xs := x.vs.map tS) rfl rfl (by simp)]
    rfl
  have hgp : ∀ R : List AO, E.gc [] (AO.cells [.loc 3 x.bs.length, .loc 1 x.hs.length, .loc 2 x.vs.length] :: rowS x.hs :: rowS x.vs :: rowB x.bs :: R) 12 (.ptr 0 0) = .t (.ptr (.agg (tw3 x)) 0) := fun R => by
    rw [E.gc]
    simp only [pos?, List.getElem?_cons_zero, List.map_cons, List.map_nil]
    rw [gc_loc (n := 9) (xs := x.bs.map tB) rfl rfl (by simp), gc_loc (n := 9) (xs := x.hs.map tS) rfl rfl (by simp), gc_loc (n := 9) (xs := x.vs.map tS) rfl rfl (by simp)]
    rfl
  clear hat hlen hL0 hL0l hL0k
  have hgv : ∀ (R : List AO), List.map (E.gc [] (AO.cells [.loc 3 x.bs.length, .loc 1 x.hs.length, .loc 2 x.vs.length] :: rowS x.hs :: rowS x.vs :: rowB x.bs :: R) 12) [.agg [.loc 3 x.bs.length, .loc 1 x.hs.length, .loc 2 x.vs.length]] = [.t (.agg (tw3 x))] := fun R => by simp only [List.map_cons, List.map_nil, hgl]
  have hgk : ∀ (R : List AO) (k : Int), List.map (E.gc [] (AO.cells [.loc 3 x.bs.length, .loc 1 x.hs.length, .loc 2 x.vs.length] :: rowS x.hs :: rowS x.vs :: rowB x.bs :: R) 12) [.agg [.loc 3 x.bs.length, .loc 1 x.hs.length, .loc 2 x.vs.length], .t (vi k)] = [.t (.agg (tw3 x)), .t (vi k)] := fun R k => by simp only [List.map_cons, List.map_nil, hgl, gc_t]
  have h23 := Count_ok t
  rw [Count_eq, show docCount t = (((docA t).length : Int), (0 : Int)) by simp only [docCount, hok]; rfl] at h23
  simp only [oneE] at h23
  unfold tw3 at h3' h23
  simp only [go_sem, Nat.reduceEqDiff, Nat.reduceAdd, Nat.reduceSub, Nat.reduceMul, Nat.reduceLT, Nat.reduceLeDiff, Nat.reduceMod, Nat.reduceDiv, Int.reduceToNat, Int.reduceLT, Int.reduceLE, Bool.not_true, Bool.not_false, reduceIte, h7']
  refine ACallL.quiet1 (fine_ok x) rfl (hgv _) rfl ?_
  cases hF : (!(farB x) && x.ok)
  · simp only [go_sem, Nat.reduceEqDiff, Nat.reduceAdd, Nat.reduceSub, Nat.reduceMul, Nat.reduceLT, Nat.reduceLeDiff, Nat.reduceMod, Nat.reduceDiv, Int.reduceToNat, Int.reduceLT, Int.reduceLE, Bool.not_true, Bool.not_false, reduceIte, Int.reduceEq, Int.reduceBEq, Int.reduceBNe, Int.reduceGT, Int.reduceGE, Int.reduceNeg, Int.reduceAdd, Int.reduceSub, Nat.reduceBEq, decide_true, decide_false, undef, beq_self_eq_true, bne_self_eq_false, Bool.and_true, Bool.true_and, Bool.and_false, Bool.false_and, Bool.or_true, Bool.true_or, Bool.or_false, Bool.false_or]
    refine ACallL.quiet1 awake_ok rfl rfl rfl ?_
    simp only [go_sem, Nat.reduceEqDiff, Nat.reduceAdd, Nat.reduceSub, Nat.reduceMul, Nat.reduceLT, Nat.reduceLeDiff, Nat.reduceMod, Nat.reduceDiv, Int.reduceToNat, Int.reduceLT, Int.reduceLE, Bool.not_true, Bool.not_false, reduceIte, Int.reduceEq, Int.reduceBEq, Int.reduceBNe, Int.reduceGT, Int.reduceGE, Int.reduceNeg, Int.reduceAdd, Int.reduceSub, Nat.reduceBEq, decide_true, decide_false, undef, beq_self_eq_true, bne_self_eq_false, Bool.and_true, Bool.true_and, Bool.and_false, Bool.false_and, Bool.or_true, Bool.true_or, Bool.or_false, Bool.false_or]
    exact finL_ret [] ⟨rfl, rfl, rfl, rfl, _, rfl, res_mk rfl⟩
  have hokx : x.ok = true := by cases h : x.ok <;> simp_all
  have hx := (Tw.ok_iff x).1 hokx
  have hsub := hN.sub ht hx
  have hcnt := hN.count ht hx
  have c23 := Count_ok x
  rw [Count_eq, show docCount x = (((docA x).length : Int), (0 : Int)) by simp only [docCount, hokx]; rfl] at c23
  simp only [oneE] at c23
  have g1 : decide (((docA x).length : Int) > (docA t).length) = false := by simp; omega
  simp only [go_sem, Nat.reduceEqDiff, Nat.reduceAdd, Nat.reduceSub, Nat.reduceMul, Nat.reduceLT, Nat.reduceLeDiff, Nat.reduceMod, Nat.reduceDiv, Int.reduceToNat, Int.reduceLT, Int.reduceLE, Bool.not_true, Bool.not_false, reduceIte, Int.reduceEq, Int.reduceBEq, Int.reduceBNe, Int.reduceGT, Int.reduceGE, Int.reduceNeg, Int.reduceAdd, Int.reduceSub, Nat.reduceBEq, decide_true, decide_false, undef, beq_self_eq_true, bne_self_eq_false, Bool.and_true, Bool.true_and, Bool.and_false, Bool.false_and, Bool.or_true, Bool.true_or, Bool.or_false, Bool.false_or, h3']
  refine ACallL.quiet1 h23 rfl rfl rfl ?_
  simp only [go_sem, Nat.reduceEqDiff, Nat.reduceAdd, Nat.reduceSub, Nat.reduceMul, Nat.reduceLT, Nat.reduceLeDiff, Nat.reduceMod, Nat.reduceDiv, Int.reduceToNat, Int.reduceLT, Int.reduceLE, Bool.not_true, Bool.not_false, reduceIte, Int.reduceEq, Int.reduceBEq, Int.reduceBNe, Int.reduceGT, Int.reduceGE, Int.reduceNeg, Int.reduceAdd, Int.reduceSub, Nat.reduceBEq, decide_true, decide_false, undef, beq_self_eq_true, bne_self_eq_false, Bool.and_true, Bool.true_and, Bool.and_false, Bool.false_and, Bool.or_true, Bool.true_or, Bool.or_false, Bool.false_or, h7']
  refine ACallL.quiet1 c23 rfl (hgv _) rfl ?_
  simp only [go_sem, Nat.reduceEqDiff, Nat.reduceAdd, Nat.reduceSub, Nat.reduceMul, Nat.reduceLT, Nat.reduceLeDiff, Nat.reduceMod, Nat.reduceDiv, Int.reduceToNat, Int.reduceLT, Int.reduceLE, Bool.not_true, Bool.not_false, reduceIte, Int.reduceEq, Int.reduceBEq, Int.reduceBNe, Int.reduceGT, Int.reduceGE, Int.reduceNeg, Int.reduceAdd, Int.reduceSub, Nat.reduceBEq, decide_true, decide_false, undef, beq_self_eq_true, bne_self_eq_false, Bool.and_true, Bool.true_and, Bool.and_false, Bool.false_and, Bool.or_true, Bool.true_or, Bool.or_false, Bool.false_or, g1]
  cases hZ : (((docA x).length : Int) == 0)
  case true =>
    simp only [go_sem, Nat.reduceEqDiff, Nat.reduceAdd, Nat.reduceSub, Nat.reduceMul, Nat.reduceLT, Nat.reduceLeDiff, Nat.reduceMod, Nat.reduceDiv, Int.reduceToNat, Int.reduceLT, Int.reduceLE, Bool.not_true, Bool.not_false, reduceIte, Int.reduceEq, Int.reduceBEq, Int.reduceBNe, Int.reduceGT, Int.reduceGE, Int.reduceNeg, Int.reduceAdd, Int.reduceSub, Nat.reduceBEq, decide_true, decide_false, undef, beq_self_eq_true, bne_self_eq_false, Bool.and_true, Bool.true_and, Bool.and_false, Bool.false_and, Bool.or_true, Bool.true_or, Bool.or_false, Bool.false_or]
    refine ACallL.quiet1 awake_ok rfl rfl rfl ?_
    simp only [go_sem, Nat.reduceEqDiff, Nat.reduceAdd, Nat.reduceSub, Nat.reduceMul, Nat.reduceLT, Nat.reduceLeDiff, Nat.reduceMod, Nat.reduceDiv, Int.reduceToNat, Int.reduceLT, Int.reduceLE, Bool.not_true, Bool.not_false, reduceIte, Int.reduceEq, Int.reduceBEq, Int.reduceBNe, Int.reduceGT, Int.reduceGE, Int.reduceNeg, Int.reduceAdd, Int.reduceSub, Nat.reduceBEq, decide_true, decide_false, undef, beq_self_eq_true, bne_self_eq_false, Bool.and_true, Bool.true_and, Bool.and_false, Bool.false_and, Bool.or_true, Bool.true_or, Bool.or_false, Bool.false_or]
    exact finL_ret [] ⟨rfl, rfl, rfl, rfl, _, rfl, res_mk rfl⟩
  have hDx : docA x ≠ [] := by
    intro e
    rw [e] at hZ
    simp at hZ
  have hDt : docA t ≠ [] := by
    obtain ⟨l, hl⟩ := List.exists_mem_of_ne_nil _ hDx
    exact List.ne_nil_of_mem (hsub l hl)
  have eDx : (docA x).isEmpty = false := by simpa using hDx
  have eDt : (docA t).isEmpty = false := by simpa using hDt
  have h19 := Who_ok t
  have c19 := Who_ok x
  have h21 := All_ok t
  have c21 := All_ok x
  have h25 := Fewest_ok t
  have c25 := Fewest_ok x
  rw [Who_eq, show docWho t = (((whoS (docA t) t.bs.length : Nat) : Int), ((whoP (docA t) t.bs.length : Nat) : Int), (0 : Int)) by simp only [docWho, hok, eDt]; rfl] at h19
  rw [Who_eq, show docWho x = (((whoS (docA x) x.bs.length : Nat) : Int), ((whoP (docA x) x.bs.length : Nat) : Int), (0 : Int)) by simp only [docWho, hokx, eDx]; rfl, hN.nb] at c19
  rw [All_eq, show docAll t = (hullD ((docA t).map fun l => l.sum), (0 : Int)) by simp only [docAll, hok, eDt]; rfl] at h21
  rw [All_eq, show docAll x = (hullD ((docA x).map fun l => l.sum), (0 : Int)) by simp only [docAll, hokx, eDx]; rfl] at c21
  rw [Fewest_eq, show docFewest t = (((size (fewD (docA t)) : Nat) : Int), ((fewD (docA t) : Nat) : Int), (0 : Int)) by simp only [docFewest, hok, eDt]; rfl] at h25
  rw [Fewest_eq, show docFewest x = (((size (fewD (docA x)) : Nat) : Int), ((fewD (docA x) : Nat) : Int), (0 : Int)) by simp only [docFewest, hokx, eDx]; rfl] at c25
  have hwS := whoS_sub hsub t.bs.length
  have hwP := whoP_sub hsub t.bs.length
  have l1 := whoS_lt (docA t) t.bs.length
  have l2 := whoS_lt (docA x) t.bs.length
  have l3 := whoP_lt (docA t) t.bs.length
  have l4 := whoP_lt (docA x) t.bs.length
  have hp : 2 ^ t.bs.length ≤ 64 := Nat.pow_le_pow_right (n := 2) (j := 6) (by omega) hnb
  have hfew := fewD_sub hDx hsub
  have hall := hullD_sub (xs := (docA t).map fun l => l.sum) (ys := (docA x).map fun l => l.sum) (by simpa using hDx) (fun y hy => by
    obtain ⟨l, hl, e⟩ := List.mem_map.1 hy
    exact List.mem_map.2 ⟨l, hsub l hl, e⟩)
  have hkt : ∀ k : Nat, k < t.bs.length → specKept t k = (hullD ((docA t).map fun l => l.getD k 0), 0) := fun k hk => by
    rw [Kept_eq]
    have : t.isB (k : Int) = true := by unfold Tw.isB wI; simp; omega
    simp only [docKept, hok, this, eDt, Int.toNat_natCast]; rfl
  have hkx : ∀ k : Nat, k < t.bs.length → specKept x k = (hullD ((docA x).map fun l => l.getD k 0), 0) := fun k hk => by
    rw [Kept_eq]
    have : x.isB (k : Int) = true := by have := hN.nb; unfold Tw.isB wI; simp; omega
    simp only [docKept, hokx, this, eDx, Int.toNat_natCast]; rfl
  have hks : ∀ k : Nat, (hullD ((docA t).map fun l => l.getD k 0)).1 ≤ (hullD ((docA x).map fun l => l.getD k 0)).1 ∧ (hullD ((docA x).map fun l => l.getD k 0)).2 ≤ (hullD ((docA t).map fun l => l.getD k 0)).2 := fun k =>
    hullD_sub (xs := (docA t).map fun l => l.getD k 0) (ys := (docA x).map fun l => l.getD k 0) (by simpa using hDx) (fun y hy => by
      obtain ⟨l, hl, e⟩ := List.mem_map.1 hy
      exact List.mem_map.2 ⟨l, hsub l hl, e⟩)
  generalize whoS (docA t) t.bs.length = sT at *
  generalize whoS (docA x) t.bs.length = sX at *
  generalize whoP (docA t) t.bs.length = pT at *
  generalize whoP (docA x) t.bs.length = pX at *
  generalize hullD ((docA t).map fun l => l.sum) = aT at *
  generalize hullD ((docA x).map fun l => l.sum) = aX at *
  generalize size (fewD (docA t)) = fT at *
  generalize size (fewD (docA x)) = fX at *
  generalize fewD (docA t) = gT at *
  generalize fewD (docA x) = gX at *
  generalize 2 ^ t.bs.length = A at *
  simp only [twoE, spanE, tS] at h19 c19 h21 c21 h25 c25
  have b1 : bits .andNot .i64 (sT : Int) sX = 0 := by rw [bits_andNot (by omega) (by omega), hwS]; rfl
  have b2 : bits .andNot .i64 (pX : Int) pT = 0 := by rw [bits_andNot (by omega) (by omega), hwP]; rfl
  have g2 : decide ((fX : Int) < fT) = false := by simp; omega
  unfold tw3 at h19 h21 h25
  simp only [go_sem, Nat.reduceEqDiff, Nat.reduceAdd, Nat.reduceSub, Nat.reduceMul, Nat.reduceLT, Nat.reduceLeDiff, Nat.reduceMod, Nat.reduceDiv, Int.reduceToNat, Int.reduceLT, Int.reduceLE, Bool.not_true, Bool.not_false, reduceIte, Int.reduceEq, Int.reduceBEq, Int.reduceBNe, Int.reduceGT, Int.reduceGE, Int.reduceNeg, Int.reduceAdd, Int.reduceSub, Nat.reduceBEq, decide_true, decide_false, undef, beq_self_eq_true, bne_self_eq_false, Bool.and_true, Bool.true_and, Bool.and_false, Bool.false_and, Bool.or_true, Bool.true_or, Bool.or_false, Bool.false_or, h3']
  refine ACallL.quiet1 h19 rfl rfl rfl ?_
  simp only [go_sem, Nat.reduceEqDiff, Nat.reduceAdd, Nat.reduceSub, Nat.reduceMul, Nat.reduceLT, Nat.reduceLeDiff, Nat.reduceMod, Nat.reduceDiv, Int.reduceToNat, Int.reduceLT, Int.reduceLE, Bool.not_true, Bool.not_false, reduceIte, Int.reduceEq, Int.reduceBEq, Int.reduceBNe, Int.reduceGT, Int.reduceGE, Int.reduceNeg, Int.reduceAdd, Int.reduceSub, Nat.reduceBEq, decide_true, decide_false, undef, beq_self_eq_true, bne_self_eq_false, Bool.and_true, Bool.true_and, Bool.and_false, Bool.false_and, Bool.or_true, Bool.true_or, Bool.or_false, Bool.false_or, h7']
  refine ACallL.quiet1 c19 rfl (hgv _) rfl ?_
  simp only [go_sem, Nat.reduceEqDiff, Nat.reduceAdd, Nat.reduceSub, Nat.reduceMul, Nat.reduceLT, Nat.reduceLeDiff, Nat.reduceMod, Nat.reduceDiv, Int.reduceToNat, Int.reduceLT, Int.reduceLE, Bool.not_true, Bool.not_false, reduceIte, Int.reduceEq, Int.reduceBEq, Int.reduceBNe, Int.reduceGT, Int.reduceGE, Int.reduceNeg, Int.reduceAdd, Int.reduceSub, Nat.reduceBEq, decide_true, decide_false, undef, beq_self_eq_true, bne_self_eq_false, Bool.and_true, Bool.true_and, Bool.and_false, Bool.false_and, Bool.or_true, Bool.true_or, Bool.or_false, Bool.false_or, h3']
  refine ACallL.quiet1 h21 rfl rfl rfl ?_
  simp only [go_sem, Nat.reduceEqDiff, Nat.reduceAdd, Nat.reduceSub, Nat.reduceMul, Nat.reduceLT, Nat.reduceLeDiff, Nat.reduceMod, Nat.reduceDiv, Int.reduceToNat, Int.reduceLT, Int.reduceLE, Bool.not_true, Bool.not_false, reduceIte, Int.reduceEq, Int.reduceBEq, Int.reduceBNe, Int.reduceGT, Int.reduceGE, Int.reduceNeg, Int.reduceAdd, Int.reduceSub, Nat.reduceBEq, decide_true, decide_false, undef, beq_self_eq_true, bne_self_eq_false, Bool.and_true, Bool.true_and, Bool.and_false, Bool.false_and, Bool.or_true, Bool.true_or, Bool.or_false, Bool.false_or, h7']
  refine ACallL.quiet1 c21 rfl (hgv _) rfl ?_
  simp only [go_sem, Nat.reduceEqDiff, Nat.reduceAdd, Nat.reduceSub, Nat.reduceMul, Nat.reduceLT, Nat.reduceLeDiff, Nat.reduceMod, Nat.reduceDiv, Int.reduceToNat, Int.reduceLT, Int.reduceLE, Bool.not_true, Bool.not_false, reduceIte, Int.reduceEq, Int.reduceBEq, Int.reduceBNe, Int.reduceGT, Int.reduceGE, Int.reduceNeg, Int.reduceAdd, Int.reduceSub, Nat.reduceBEq, decide_true, decide_false, undef, beq_self_eq_true, bne_self_eq_false, Bool.and_true, Bool.true_and, Bool.and_false, Bool.false_and, Bool.or_true, Bool.true_or, Bool.or_false, Bool.false_or, h3']
  refine ACallL.quiet1 h25 rfl rfl rfl ?_
  simp only [go_sem, Nat.reduceEqDiff, Nat.reduceAdd, Nat.reduceSub, Nat.reduceMul, Nat.reduceLT, Nat.reduceLeDiff, Nat.reduceMod, Nat.reduceDiv, Int.reduceToNat, Int.reduceLT, Int.reduceLE, Bool.not_true, Bool.not_false, reduceIte, Int.reduceEq, Int.reduceBEq, Int.reduceBNe, Int.reduceGT, Int.reduceGE, Int.reduceNeg, Int.reduceAdd, Int.reduceSub, Nat.reduceBEq, decide_true, decide_false, undef, beq_self_eq_true, bne_self_eq_false, Bool.and_true, Bool.true_and, Bool.and_false, Bool.false_and, Bool.or_true, Bool.true_or, Bool.or_false, Bool.false_or, h7']
  refine ACallL.quiet1 c25 rfl (hgv _) rfl ?_
  simp only [go_sem, Nat.reduceEqDiff, Nat.reduceAdd, Nat.reduceSub, Nat.reduceMul, Nat.reduceLT, Nat.reduceLeDiff, Nat.reduceMod, Nat.reduceDiv, Int.reduceToNat, Int.reduceLT, Int.reduceLE, Bool.not_true, Bool.not_false, reduceIte, Int.reduceEq, Int.reduceBEq, Int.reduceBNe, Int.reduceGT, Int.reduceGE, Int.reduceNeg, Int.reduceAdd, Int.reduceSub, Nat.reduceBEq, decide_true, decide_false, undef, beq_self_eq_true, bne_self_eq_false, Bool.and_true, Bool.true_and, Bool.and_false, Bool.false_and, Bool.or_true, Bool.true_or, Bool.or_false, Bool.false_or, b1, b2]
  refine ACallL.quiet1 (in43_ok aX.1 aX.2 aT.1 aT.2) rfl rfl rfl ?_
  have hin : (decide (aX.1 ≥ aT.1) && decide (aX.2 ≤ aT.2)) = true := by simp; omega
  simp only [go_sem, Nat.reduceEqDiff, Nat.reduceAdd, Nat.reduceSub, Nat.reduceMul, Nat.reduceLT, Nat.reduceLeDiff, Nat.reduceMod, Nat.reduceDiv, Int.reduceToNat, Int.reduceLT, Int.reduceLE, Bool.not_true, Bool.not_false, reduceIte, Int.reduceEq, Int.reduceBEq, Int.reduceBNe, Int.reduceGT, Int.reduceGE, Int.reduceNeg, Int.reduceAdd, Int.reduceSub, Nat.reduceBEq, decide_true, decide_false, undef, beq_self_eq_true, bne_self_eq_false, Bool.and_true, Bool.true_and, Bool.and_false, Bool.false_and, Bool.or_true, Bool.true_or, Bool.or_false, Bool.false_or, hin, g2, h3', List.length_map]
  refine awpL_for (i := 258) (L := 257) t.bs.length (fun k s => s = { env := [(258, .t (vi k)), (257, .t (vi t.bs.length)), (3, .t (.ptr (.agg (tw3 t)) 0)), (7, .t (.ptr (.agg (tw3 x)) 0)), (17, .t (.fn (.func 43) [] []))], σ := [] })
    ?_ ?_ ?_ ?_
  · rintro k s rfl; exact ⟨rfl, rfl⟩
  · exact ⟨_, Sub.gc [] [258, 257, 3, 7, 17] rfl rfl, St.gc_mk (by simp only [List.map_cons, List.map_nil, lk, Nat.reduceEqDiff, reduceIte, h7', h3', hgp, gc_t]; rfl) rfl rfl rfl⟩
  · rintro k s hk rfl
    have hw : IntKind.i64.wrap ((k : Int) + 1) = ((k + 1 : Nat) : Int) := by rw [wrap_id (by omega) (by omega)]; omega
    have h17 := Kept_ok t k (by omega)
    have c17 := Kept_ok x k (by have := hN.nb; omega)
    rw [hkt k hk] at h17
    rw [hkx k hk] at c17
    have hk2 := hks k
    generalize hullD ((docA t).map fun l => l.getD k 0) = uT at *
    generalize hullD ((docA x).map fun l => l.getD k 0) = uX at *
    simp only [spanE, tS] at h17 c17
    have hin2 : (decide (uX.1 ≥ uT.1) && decide (uX.2 ≤ uT.2)) = true := by simp; omega
    unfold tw3 at h17 c17
    simp only [tw3, go_sem, Nat.reduceEqDiff, Nat.reduceAdd, Nat.reduceSub, Nat.reduceMul, Nat.reduceLT, Nat.reduceLeDiff, Nat.reduceMod, Nat.reduceDiv, Int.reduceToNat, Int.reduceLT, Int.reduceLE, Bool.not_true, Bool.not_false, reduceIte, Int.reduceEq, Int.reduceBEq, Int.reduceBNe, Int.reduceGT, Int.reduceGE, Int.reduceNeg, Int.reduceAdd, Int.reduceSub, Nat.reduceBEq, decide_true, decide_false, undef, beq_self_eq_true, bne_self_eq_false, Bool.and_true, Bool.true_and, Bool.and_false, Bool.false_and, Bool.or_true, Bool.true_or, Bool.or_false, Bool.false_or]
    refine ACallL.quiet1 h17 rfl rfl rfl ?_
    simp only [go_sem, Nat.reduceEqDiff, Nat.reduceAdd, Nat.reduceSub, Nat.reduceMul, Nat.reduceLT, Nat.reduceLeDiff, Nat.reduceMod, Nat.reduceDiv, Int.reduceToNat, Int.reduceLT, Int.reduceLE, Bool.not_true, Bool.not_false, reduceIte, Int.reduceEq, Int.reduceBEq, Int.reduceBNe, Int.reduceGT, Int.reduceGE, Int.reduceNeg, Int.reduceAdd, Int.reduceSub, Nat.reduceBEq, decide_true, decide_false, undef, beq_self_eq_true, bne_self_eq_false, Bool.and_true, Bool.true_and, Bool.and_false, Bool.false_and, Bool.or_true, Bool.true_or, Bool.or_false, Bool.false_or]
    refine ACallL.quiet1 c17 rfl rfl rfl ?_
    simp only [go_sem, Nat.reduceEqDiff, Nat.reduceAdd, Nat.reduceSub, Nat.reduceMul, Nat.reduceLT, Nat.reduceLeDiff, Nat.reduceMod, Nat.reduceDiv, Int.reduceToNat, Int.reduceLT, Int.reduceLE, Bool.not_true, Bool.not_false, reduceIte, Int.reduceEq, Int.reduceBEq, Int.reduceBNe, Int.reduceGT, Int.reduceGE, Int.reduceNeg, Int.reduceAdd, Int.reduceSub, Nat.reduceBEq, decide_true, decide_false, undef, beq_self_eq_true, bne_self_eq_false, Bool.and_true, Bool.true_and, Bool.and_false, Bool.false_and, Bool.or_true, Bool.true_or, Bool.or_false, Bool.false_or]
    refine ACallL.quiet1 (in43_ok uX.1 uX.2 uT.1 uT.2) rfl rfl rfl ?_
    simp only [go_sem, Nat.reduceEqDiff, Nat.reduceAdd, Nat.reduceSub, Nat.reduceMul, Nat.reduceLT, Nat.reduceLeDiff, Nat.reduceMod, Nat.reduceDiv, Int.reduceToNat, Int.reduceLT, Int.reduceLE, Bool.not_true, Bool.not_false, reduceIte, Int.reduceEq, Int.reduceBEq, Int.reduceBNe, Int.reduceGT, Int.reduceGE, Int.reduceNeg, Int.reduceAdd, Int.reduceSub, Nat.reduceBEq, decide_true, decide_false, undef, beq_self_eq_true, bne_self_eq_false, Bool.and_true, Bool.true_and, Bool.and_false, Bool.false_and, Bool.or_true, Bool.true_or, Bool.or_false, Bool.false_or, hin2, hw]
    exact ⟨_, Sub.gc [] [258, 257, 3, 7, 17] rfl rfl, rfl⟩
  · rintro s rfl
    simp only [go_sem, Nat.reduceEqDiff, Nat.reduceAdd, Nat.reduceSub, Nat.reduceMul, Nat.reduceLT, Nat.reduceLeDiff, Nat.reduceMod, Nat.reduceDiv, Int.reduceToNat, Int.reduceLT, Int.reduceLE, Bool.not_true, Bool.not_false, reduceIte, Int.reduceEq, Int.reduceBEq, Int.reduceBNe, Int.reduceGT, Int.reduceGE, Int.reduceNeg, Int.reduceAdd, Int.reduceSub, Nat.reduceBEq, decide_true, decide_false, undef, beq_self_eq_true, bne_self_eq_false, Bool.and_true, Bool.true_and, Bool.and_false, Bool.false_and, Bool.or_true, Bool.true_or, Bool.or_false, Bool.false_or]
    refine ACallL.quiet1 awake_ok rfl rfl rfl ?_
    simp only [go_sem, Nat.reduceEqDiff, Nat.reduceAdd, Nat.reduceSub, Nat.reduceMul, Nat.reduceLT, Nat.reduceLeDiff, Nat.reduceMod, Nat.reduceDiv, Int.reduceToNat, Int.reduceLT, Int.reduceLE, Bool.not_true, Bool.not_false, reduceIte, Int.reduceEq, Int.reduceBEq, Int.reduceBNe, Int.reduceGT, Int.reduceGE, Int.reduceNeg, Int.reduceAdd, Int.reduceSub, Nat.reduceBEq, decide_true, decide_false, undef, beq_self_eq_true, bne_self_eq_false, Bool.and_true, Bool.true_and, Bool.and_false, Bool.false_and, Bool.or_true, Bool.true_or, Bool.or_false, Bool.false_or]
    exact finL_ret [] ⟨rfl, rfl, rfl, rfl, _, rfl, res_mk rfl⟩
end Go.Proofs.Yticdacdflemoiaa
