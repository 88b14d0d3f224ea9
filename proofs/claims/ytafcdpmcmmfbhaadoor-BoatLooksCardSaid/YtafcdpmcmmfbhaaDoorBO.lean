/- Proved here: laws that the statements need (BoC3h, BoX8, BoX9, BoXA). No conditions but those that each law states. -/
import Derived.Test.YtafcdpmcmmfbhaaDoorFL
import Derived.Test.YtafcdpmcmmfbhaaDoorProg
import Derived.Test.YtafcdpmcmmfbhaaDoorBM

set_option linter.unusedSimpArgs false
set_option linter.unusedVariables false

/- Compiled code of functions, printed by program; each is checked to be the program's. No conditions. -/
namespace Go.Proofs.YtafcdpmcmmfbhaaDoor
open Go Go.Ab
/-- dipworks/dipworkslaw12.held -/
def c41 : AC :=
 .seq (.reg [⟨(some 4), none, .box (.tmp 0)⟩,
 ⟨(some 8), none, .alloc [(.int .i64 0), (.int .i64 0), (.int .i64 0), (.int .i64 0), (.slice none 0 0)]⟩,
 ⟨(some 9), none, .mov (.lit (.bool false))⟩])
 (.seq (.seq (.reg [⟨(some 14), none, .faddr 4 (.tmp 4)⟩,
 ⟨(some 15), none, .load false 1 (.tmp 14)⟩,
 ⟨(some 16), none, .mov (.tmp 1)⟩,
 ⟨(some 17), none, .iaddr 1 (.tmp 15) (.tmp 16)⟩,
 ⟨(some 18), none, .load false 1 (.tmp 17)⟩,
 ⟨(some 19), none, .len (.tmp 18)⟩,
 ⟨(some 20), none, .bin .geq (.tmp 19) (.lit (.int .i64 5))⟩,
 ⟨(some 21), none, .mov (.tmp 20)⟩,
 ⟨(some 22), (some (21, false)), .mov (.tmp 3)⟩,
 ⟨(some 23), (some (21, false)), .faddr 1 (.tmp 4)⟩,
 ⟨(some 24), (some (21, false)), .load false 1 (.tmp 23)⟩,
 ⟨(some 25), (some (21, false)), .bin .geq (.tmp 22) (.tmp 24)⟩,
 ⟨(some 26), none, .pick (.tmp 21) (.lit (.bool true)) (.tmp 25)⟩])
 (.cond (.tmp 26) (.seq (.reg [⟨(some 27), none, .load true 5 (.tmp 4)⟩,
 ⟨none, none, .store 5 (.tmp 8) (.tmp 27)⟩,
 ⟨(some 9), none, .mov (.lit (.bool false))⟩])
 (.ret))
 (.skip)))
 (.seq (.reg [⟨(some 28), none, .load true 5 (.tmp 4)⟩,
 ⟨(some 10), none, .alloc [(.int .i64 0), (.int .i64 0), (.int .i64 0), (.int .i64 0), (.slice none 0 0)]⟩,
 ⟨none, none, .store 5 (.tmp 10) (.tmp 28)⟩])
 (.seq (.reg [⟨(some 29), none, .bslice 1 (.slice none 0 0) 0 []⟩,
 ⟨(some 30), none, .faddr 4 (.tmp 4)⟩,
 ⟨(some 31), none, .load false 1 (.tmp 30)⟩,
 ⟨(some 32), none, .app 1 24 (.tmp 29) (.tmp 31)⟩,
 ⟨(some 33), none, .faddr 4 (.tmp 10)⟩,
 ⟨none, none, .store 1 (.tmp 33) (.tmp 32)⟩])
 (.seq (.reg [⟨(some 34), none, .faddr 4 (.tmp 10)⟩,
 ⟨(some 35), none, .load false 1 (.tmp 34)⟩,
 ⟨(some 36), none, .mov (.tmp 1)⟩,
 ⟨(some 37), none, .iaddr 1 (.tmp 35) (.tmp 36)⟩,
 ⟨none, none, .store 1 (.tmp 37) (.lit (.slice none 0 0))⟩])
 (.seq (.reg [⟨(some 11), none, .mov (.lit (.bool false))⟩])
 (.seq (.seq (.reg [⟨(some 38), none, .faddr 4 (.tmp 4)⟩,
 ⟨(some 39), none, .load false 1 (.tmp 38)⟩,
 ⟨(some 40), none, .mov (.tmp 1)⟩,
 ⟨(some 41), none, .iaddr 1 (.tmp 39) (.tmp 40)⟩,
 ⟨(some 42), none, .load false 1 (.tmp 41)⟩,
 ⟨(some 43), none, .len (.tmp 42)⟩,
 ⟨(some 44), none, .mov (.lit (.int .i64 0))⟩])
 (.block 0 (.loop (.seq (.reg [⟨(some 45), none, .bin .lss (.tmp 44) (.tmp 43)⟩])
 (.seq (.cond (.tmp 45) (.skip)
 (.exit 0))
 (.seq (.block 1 (.seq (.reg [⟨(some 46), none, .iaddr 5 (.tmp 42) (.tmp 44)⟩,
 ⟨(some 47), none, .load true 5 (.tmp 46)⟩,
 ⟨(some 13), none, .alloc [(.int .i64 0), (.int .i64 0), (.int .i64 0), (.int .i64 0), (.int .i64 0)]⟩,
 ⟨none, none, .store 5 (.tmp 13) (.tmp 47)⟩])
 (.seq (.seq (.reg [⟨(some 48), none, .mov (.tmp 11)⟩,
 ⟨(some 49), none, .un .not (.tmp 48)⟩,
 ⟨(some 50), none, .mov (.tmp 49)⟩,
 ⟨(some 51), (some (50, true)), .faddr 0 (.tmp 13)⟩,
 ⟨(some 52), (some (50, true)), .load false 1 (.tmp 51)⟩,
 ⟨(some 53), (some (50, true)), .mov (.tmp 2)⟩,
 ⟨(some 54), (some (50, true)), .bin .gtr (.tmp 52) (.tmp 53)⟩,
 ⟨(some 55), none, .pick (.tmp 50) (.tmp 54) (.lit (.bool false))⟩])
 (.cond (.tmp 55) (.draw (.step ⟨(some 56), none, .faddr 4 (.tmp 10)⟩ (
 .step ⟨(some 57), none, .load false 1 (.tmp 56)⟩ (
 .step ⟨(some 58), none, .mov (.tmp 1)⟩ (
 .step ⟨(some 59), none, .faddr 4 (.tmp 10)⟩ (
 .step ⟨(some 60), none, .load false 1 (.tmp 59)⟩ (
 .step ⟨(some 61), none, .mov (.tmp 1)⟩ (
 .step ⟨(some 62), none, .iaddr 1 (.tmp 60) (.tmp 61)⟩ (
 .step ⟨(some 63), none, .load false 1 (.tmp 62)⟩ (
 .step ⟨(some 64), none, .mov (.tmp 2)⟩ (
 .step ⟨(some 65), none, .faddr 0 (.tmp 4)⟩ (
 .step ⟨(some 66), none, .load false 1 (.tmp 65)⟩ (
 .step ⟨(some 67), none, .bin .sub (.tmp 66) (.lit (.int .i64 1))⟩ (
 .step ⟨(some 69), none, .mov (.tmp 3)⟩ (
 .step ⟨(some 70), none, .faddr 1 (.tmp 4)⟩ (
 .step ⟨(some 71), none, .load false 1 (.tmp 70)⟩ (
 .step ⟨(some 72), none, .bin .sub (.tmp 71) (.lit (.int .i64 1))⟩ (
 .ev ⟨(some 68), none, .call (.fn 45) [(.lit (.int .i64 0)), (.tmp 67)]⟩ [⟨(some 71), none, .load false 1 (.tmp 70)⟩, ⟨(some 70), none, .faddr 1 (.tmp 4)⟩, ⟨(some 66), none, .load false 1 (.tmp 65)⟩, ⟨(some 65), none, .faddr 0 (.tmp 4)⟩, ⟨(some 63), none, .load false 1 (.tmp 62)⟩, ⟨(some 62), none, .iaddr 1 (.tmp 60) (.tmp 61)⟩, ⟨(some 60), none, .load false 1 (.tmp 59)⟩, ⟨(some 59), none, .faddr 4 (.tmp 10)⟩, ⟨(some 57), none, .load false 1 (.tmp 56)⟩, ⟨(some 56), none, .faddr 4 (.tmp 10)⟩] (
 .ev ⟨(some 73), none, .call (.fn 45) [(.tmp 69), (.tmp 72)]⟩ [⟨(some 71), none, .load false 1 (.tmp 70)⟩, ⟨(some 70), none, .faddr 1 (.tmp 4)⟩, ⟨(some 66), none, .load false 1 (.tmp 65)⟩, ⟨(some 65), none, .faddr 0 (.tmp 4)⟩, ⟨(some 63), none, .load false 1 (.tmp 62)⟩, ⟨(some 62), none, .iaddr 1 (.tmp 60) (.tmp 61)⟩, ⟨(some 60), none, .load false 1 (.tmp 59)⟩, ⟨(some 59), none, .faddr 4 (.tmp 10)⟩, ⟨(some 57), none, .load false 1 (.tmp 56)⟩, ⟨(some 56), none, .faddr 4 (.tmp 10)⟩] (
 .ev ⟨(some 74), none, .call (.fn 47) [(.tmp 64), (.tmp 68), (.tmp 73)]⟩ [⟨(some 71), none, .load false 1 (.tmp 70)⟩, ⟨(some 70), none, .faddr 1 (.tmp 4)⟩, ⟨(some 66), none, .load false 1 (.tmp 65)⟩, ⟨(some 65), none, .faddr 0 (.tmp 4)⟩, ⟨(some 63), none, .load false 1 (.tmp 62)⟩, ⟨(some 62), none, .iaddr 1 (.tmp 60) (.tmp 61)⟩, ⟨(some 60), none, .load false 1 (.tmp 59)⟩, ⟨(some 59), none, .faddr 4 (.tmp 10)⟩, ⟨(some 57), none, .load false 1 (.tmp 56)⟩, ⟨(some 56), none, .faddr 4 (.tmp 10)⟩] (
 .ev ⟨(some 75), none, .bslice 5 (.agg #[(.int .i64 0), (.int .i64 0), (.int .i64 0), (.int .i64 0), (.int .i64 0)]) 1 [(0, (.tmp 74))]⟩ [⟨(some 71), none, .load false 1 (.tmp 70)⟩, ⟨(some 70), none, .faddr 1 (.tmp 4)⟩, ⟨(some 66), none, .load false 1 (.tmp 65)⟩, ⟨(some 65), none, .faddr 0 (.tmp 4)⟩, ⟨(some 63), none, .load false 1 (.tmp 62)⟩, ⟨(some 62), none, .iaddr 1 (.tmp 60) (.tmp 61)⟩, ⟨(some 60), none, .load false 1 (.tmp 59)⟩, ⟨(some 59), none, .faddr 4 (.tmp 10)⟩, ⟨(some 57), none, .load false 1 (.tmp 56)⟩, ⟨(some 56), none, .faddr 4 (.tmp 10)⟩] (
 .ev ⟨(some 76), none, .app 5 40 (.tmp 63) (.tmp 75)⟩ [⟨(some 71), none, .load false 1 (.tmp 70)⟩, ⟨(some 70), none, .faddr 1 (.tmp 4)⟩, ⟨(some 66), none, .load false 1 (.tmp 65)⟩, ⟨(some 65), none, .faddr 0 (.tmp 4)⟩, ⟨(some 62), none, .iaddr 1 (.tmp 60) (.tmp 61)⟩, ⟨(some 60), none, .load false 1 (.tmp 59)⟩, ⟨(some 59), none, .faddr 4 (.tmp 10)⟩, ⟨(some 57), none, .load false 1 (.tmp 56)⟩, ⟨(some 56), none, .faddr 4 (.tmp 10)⟩] (
 .step ⟨(some 77), none, .iaddr 1 (.tmp 57) (.tmp 58)⟩ (
 .ev ⟨none, none, .store 1 (.tmp 77) (.tmp 76)⟩ [] (
 .step ⟨(some 11), none, .mov (.lit (.bool true))⟩ (
 .done))
 (.stop)))
 (.stop))
 (.stop))
 (.stop))
 (.stop))
 (.stop)))))))))))))))))))
 (.skip)))
 (.draw (.step ⟨(some 78), none, .faddr 4 (.tmp 10)⟩ (
 .step ⟨(some 79), none, .load false 1 (.tmp 78)⟩ (
 .step ⟨(some 80), none, .mov (.tmp 1)⟩ (
 .step ⟨(some 81), none, .faddr 4 (.tmp 10)⟩ (
 .step ⟨(some 82), none, .load false 1 (.tmp 81)⟩ (
 .step ⟨(some 83), none, .mov (.tmp 1)⟩ (
 .step ⟨(some 84), none, .iaddr 1 (.tmp 82) (.tmp 83)⟩ (
 .step ⟨(some 85), none, .load false 1 (.tmp 84)⟩ (
 .step ⟨(some 86), none, .load true 5 (.tmp 13)⟩ (
 .ev ⟨(some 87), none, .bslice 5 (.agg #[(.int .i64 0), (.int .i64 0), (.int .i64 0), (.int .i64 0), (.int .i64 0)]) 1 [(0, (.tmp 86))]⟩ [⟨(some 85), none, .load false 1 (.tmp 84)⟩, ⟨(some 84), none, .iaddr 1 (.tmp 82) (.tmp 83)⟩, ⟨(some 82), none, .load false 1 (.tmp 81)⟩, ⟨(some 81), none, .faddr 4 (.tmp 10)⟩, ⟨(some 79), none, .load false 1 (.tmp 78)⟩, ⟨(some 78), none, .faddr 4 (.tmp 10)⟩] (
 .ev ⟨(some 88), none, .app 5 40 (.tmp 85) (.tmp 87)⟩ [⟨(some 86), none, .load true 5 (.tmp 13)⟩, ⟨(some 84), none, .iaddr 1 (.tmp 82) (.tmp 83)⟩, ⟨(some 82), none, .load false 1 (.tmp 81)⟩, ⟨(some 81), none, .faddr 4 (.tmp 10)⟩, ⟨(some 79), none, .load false 1 (.tmp 78)⟩, ⟨(some 78), none, .faddr 4 (.tmp 10)⟩] (
 .step ⟨(some 89), none, .iaddr 1 (.tmp 79) (.tmp 80)⟩ (
 .ev ⟨none, none, .store 1 (.tmp 89) (.tmp 88)⟩ [] (
 .done)
 (.stop)))
 (.stop))
 (.stop)))))))))))))))
 (.reg [⟨(some 90), none, .bin .add (.tmp 44) (.lit (.int .i64 1))⟩,
 ⟨(some 44), none, .mov (.tmp 90)⟩])))))))
 (.seq (.seq (.reg [⟨(some 91), none, .mov (.tmp 11)⟩,
 ⟨(some 92), none, .un .not (.tmp 91)⟩])
 (.cond (.tmp 92) (.draw (.step ⟨(some 93), none, .faddr 4 (.tmp 10)⟩ (
 .step ⟨(some 94), none, .load false 1 (.tmp 93)⟩ (
 .step ⟨(some 95), none, .mov (.tmp 1)⟩ (
 .step ⟨(some 96), none, .faddr 4 (.tmp 10)⟩ (
 .step ⟨(some 97), none, .load false 1 (.tmp 96)⟩ (
 .step ⟨(some 98), none, .mov (.tmp 1)⟩ (
 .step ⟨(some 99), none, .iaddr 1 (.tmp 97) (.tmp 98)⟩ (
 .step ⟨(some 100), none, .load false 1 (.tmp 99)⟩ (
 .step ⟨(some 101), none, .mov (.tmp 2)⟩ (
 .step ⟨(some 102), none, .faddr 0 (.tmp 4)⟩ (
 .step ⟨(some 103), none, .load false 1 (.tmp 102)⟩ (
 .step ⟨(some 104), none, .bin .sub (.tmp 103) (.lit (.int .i64 1))⟩ (
 .step ⟨(some 106), none, .mov (.tmp 3)⟩ (
 .step ⟨(some 107), none, .faddr 1 (.tmp 4)⟩ (
 .step ⟨(some 108), none, .load false 1 (.tmp 107)⟩ (
 .step ⟨(some 109), none, .bin .sub (.tmp 108) (.lit (.int .i64 1))⟩ (
 .ev ⟨(some 105), none, .call (.fn 45) [(.lit (.int .i64 0)), (.tmp 104)]⟩ [⟨(some 108), none, .load false 1 (.tmp 107)⟩, ⟨(some 107), none, .faddr 1 (.tmp 4)⟩, ⟨(some 103), none, .load false 1 (.tmp 102)⟩, ⟨(some 102), none, .faddr 0 (.tmp 4)⟩, ⟨(some 100), none, .load false 1 (.tmp 99)⟩, ⟨(some 99), none, .iaddr 1 (.tmp 97) (.tmp 98)⟩, ⟨(some 97), none, .load false 1 (.tmp 96)⟩, ⟨(some 96), none, .faddr 4 (.tmp 10)⟩, ⟨(some 94), none, .load false 1 (.tmp 93)⟩, ⟨(some 93), none, .faddr 4 (.tmp 10)⟩] (
 .ev ⟨(some 110), none, .call (.fn 45) [(.tmp 106), (.tmp 109)]⟩ [⟨(some 108), none, .load false 1 (.tmp 107)⟩, ⟨(some 107), none, .faddr 1 (.tmp 4)⟩, ⟨(some 103), none, .load false 1 (.tmp 102)⟩, ⟨(some 102), none, .faddr 0 (.tmp 4)⟩, ⟨(some 100), none, .load false 1 (.tmp 99)⟩, ⟨(some 99), none, .iaddr 1 (.tmp 97) (.tmp 98)⟩, ⟨(some 97), none, .load false 1 (.tmp 96)⟩, ⟨(some 96), none, .faddr 4 (.tmp 10)⟩, ⟨(some 94), none, .load false 1 (.tmp 93)⟩, ⟨(some 93), none, .faddr 4 (.tmp 10)⟩] (
 .ev ⟨(some 111), none, .call (.fn 47) [(.tmp 101), (.tmp 105), (.tmp 110)]⟩ [⟨(some 108), none, .load false 1 (.tmp 107)⟩, ⟨(some 107), none, .faddr 1 (.tmp 4)⟩, ⟨(some 103), none, .load false 1 (.tmp 102)⟩, ⟨(some 102), none, .faddr 0 (.tmp 4)⟩, ⟨(some 100), none, .load false 1 (.tmp 99)⟩, ⟨(some 99), none, .iaddr 1 (.tmp 97) (.tmp 98)⟩, ⟨(some 97), none, .load false 1 (.tmp 96)⟩, ⟨(some 96), none, .faddr 4 (.tmp 10)⟩, ⟨(some 94), none, .load false 1 (.tmp 93)⟩, ⟨(some 93), none, .faddr 4 (.tmp 10)⟩] (
 .ev ⟨(some 112), none, .bslice 5 (.agg #[(.int .i64 0), (.int .i64 0), (.int .i64 0), (.int .i64 0), (.int .i64 0)]) 1 [(0, (.tmp 111))]⟩ [⟨(some 108), none, .load false 1 (.tmp 107)⟩, ⟨(some 107), none, .faddr 1 (.tmp 4)⟩, ⟨(some 103), none, .load false 1 (.tmp 102)⟩, ⟨(some 102), none, .faddr 0 (.tmp 4)⟩, ⟨(some 100), none, .load false 1 (.tmp 99)⟩, ⟨(some 99), none, .iaddr 1 (.tmp 97) (.tmp 98)⟩, ⟨(some 97), none, .load false 1 (.tmp 96)⟩, ⟨(some 96), none, .faddr 4 (.tmp 10)⟩, ⟨(some 94), none, .load false 1 (.tmp 93)⟩, ⟨(some 93), none, .faddr 4 (.tmp 10)⟩] (
 .ev ⟨(some 113), none, .app 5 40 (.tmp 100) (.tmp 112)⟩ [⟨(some 108), none, .load false 1 (.tmp 107)⟩, ⟨(some 107), none, .faddr 1 (.tmp 4)⟩, ⟨(some 103), none, .load false 1 (.tmp 102)⟩, ⟨(some 102), none, .faddr 0 (.tmp 4)⟩, ⟨(some 99), none, .iaddr 1 (.tmp 97) (.tmp 98)⟩, ⟨(some 97), none, .load false 1 (.tmp 96)⟩, ⟨(some 96), none, .faddr 4 (.tmp 10)⟩, ⟨(some 94), none, .load false 1 (.tmp 93)⟩, ⟨(some 93), none, .faddr 4 (.tmp 10)⟩] (
 .step ⟨(some 114), none, .iaddr 1 (.tmp 94) (.tmp 95)⟩ (
 .ev ⟨none, none, .store 1 (.tmp 114) (.tmp 113)⟩ [] (
 .done)
 (.stop)))
 (.stop))
 (.stop))
 (.stop))
 (.stop))
 (.stop)))))))))))))))))))
 (.skip)))
 (.seq (.reg [⟨(some 115), none, .load true 5 (.tmp 10)⟩,
 ⟨none, none, .store 5 (.tmp 8) (.tmp 115)⟩,
 ⟨(some 9), none, .mov (.lit (.bool true))⟩])
 (.ret)))))))))
theorem k41 : FnC Tryd.prog 41 116 [8] [] [.cell 8 true 5, .tmp 9] c41 4 := ⟨Tryd.f41, _, Tryd.func41, rfl, by decide, rfl, by decide, by kernel_rfl, by kernel_rfl⟩
end Go.Proofs.YtafcdpmcmmfbhaaDoor

/- Boats of which one was seen in rows from one on, too (the function held). -/
namespace Go.Proofs.YtafcdpmcmmfbhaaDoor
open Go Go.Ab

theorem _root_.Go.Ab.Sub.ghostRE {nb : Nat} {s : St} (id i es es0 : Nat) {xs : List E} (he : 0 < es) (h0 : 0 < es0) (h : s.σ[id]? = some (.row es0 xs)) (hc : xs[i]? = some (.t (.lit (.slice none 0 0)))) {σ' : List AO} (hσ : s.σ.set id (.row es0 (xs.set i (.loc s.σ.length 0))) ++ [.row es []] = σ') : Sub nb s { s with σ := σ' } := hσ ▸ Sub.ghostR id i es es0 he h0 h hc
/-- The rows of sightings, one of them held apart. -/
def rowW (b : Bo) (n : Nat) (e : E) : List E := ((b.seen.map tSis).map E.t).set n e
theorem rowW_len (b : Bo) (n : Nat) (e : E) : (rowW b n e).length = b.seen.length := by simp [rowW]
theorem rowW_get {b : Bo} {n : Nat} (h : n < b.seen.length) (e : E) : (rowW b n e)[n]? = some e := by simp [rowW, h]
theorem rowW_set {b : Bo} {n : Nat} (h : n < b.seen.length) (e e' : E) : (rowW b n e).take n ++ [e'] ++ (rowW b n e).drop (n + 1) = rowW b n e' := by
  have h1 : n < (rowW b n e).length := by rw [rowW_len]; exact h
  have := List.set_eq_take_append_cons_drop (l := rowW b n e) (i := n) (a := e')
  rw [if_pos h1] at this
  rw [List.append_assoc, List.singleton_append, ← this]
  simp [rowW]
theorem rowW_set0 {b : Bo} {n : Nat} (h : n < b.seen.length) (e' : E) : ((b.seen.map tSis).map E.t).take n ++ [e'] ++ ((b.seen.map tSis).map E.t).drop (n + 1) = rowW b n e' := by
  have := List.set_eq_take_append_cons_drop (l := (b.seen.map tSis).map E.t) (i := n) (a := e')
  rw [if_pos (by simp; exact h)] at this
  rw [List.append_assoc, List.singleton_append, ← this]
  rfl
theorem rowW_gc {b : Bo} {n : Nat} (kp : List Nat) (σ : List AO) (f : Nat) (e : E) : (rowW b n e).map (E.gc kp σ (f + 1)) = rowW b n (e.gc kp σ (f + 1)) := by
  unfold rowW
  rw [List.map_set, gc_row]
/-- A sighting more, ahead of the first later one. -/
def insS (s : Si) : List Si → List Si
  | [] => [s]
  | x :: l => if s.minute < x.minute then s :: x :: l else x :: insS s l
def heStep (s : Si) (p : List Si × Bool) (x : Si) : List Si × Bool := if !p.2 && decide (s.minute < x.minute) then (p.1 ++ [s, x], true) else (p.1 ++ [x], p.2)
def heTo (s : Si) (l : List Si) (j : Nat) : List Si × Bool := (l.take j).foldl (heStep s) ([], false)
theorem heTo_succ (s : Si) (l : List Si) {j : Nat} {x : Si} (h : l[j]? = some x) : heTo s l (j + 1) = heStep s (heTo s l j) x := by
  unfold heTo
  rw [List.take_add_one, h, List.foldl_append]; rfl
theorem he_true (s : Si) : ∀ (l o : List Si), l.foldl (heStep s) (o, true) = (o ++ l, true)
  | [], o => by simp
  | x :: l, o => by
    rw [List.foldl_cons, show heStep s (o, true) x = (o ++ [x], true) from rfl, he_true s l]; simp
def heEnd (s : Si) (p : List Si × Bool) : List Si := if p.2 then p.1 else p.1 ++ [s]
theorem he_end (s : Si) : ∀ (l o : List Si), heEnd s (l.foldl (heStep s) (o, false)) = o ++ insS s l
  | [], o => by simp [heEnd, insS]
  | x :: l, o => by
    rw [List.foldl_cons]
    unfold insS
    by_cases h : s.minute < x.minute
    · rw [if_pos h, show heStep s (o, false) x = (o ++ [s, x], true) by simp [heStep, h], he_true]
      simp [heEnd]
    · rw [if_neg h, show heStep s (o, false) x = (o ++ [x], false) by simp [heStep, h], he_end s l]
      simp
theorem heTo_end (s : Si) (l : List Si) : heEnd s (heTo s l l.length) = insS s l := by
  unfold heTo
  rw [List.take_length, he_end]; rfl
theorem heTo_len (s : Si) : ∀ (l : List Si) (o : List Si) (d : Bool), (l.foldl (heStep s) (o, d)).1.length ≤ o.length + l.length + (if d then 0 else 1)
  | [], o, d => by simp
  | x :: l, o, true => by rw [he_true]; simp
  | x :: l, o, false => by
    rw [List.foldl_cons]
    by_cases h : s.minute < x.minute
    · rw [show heStep s (o, false) x = (o ++ [s, x], true) by simp [heStep, h], he_true]; simp; omega
    · rw [show heStep s (o, false) x = (o ++ [x], false) by simp [heStep, h]]
      have := heTo_len s l (o ++ [x]) false
      simp only [List.length_append, List.length_cons, List.length_nil, Bool.false_eq_true, if_false] at this ⊢
      omega
def newS (b : Bo) (m r : Nat) : Si := ⟨m, 0, b.wide - 1, r, b.deep - 1⟩
def heldB (b : Bo) (n m r : Nat) : Bo := if (seenOf b n).length < 5 ∧ (r : Int) < b.deep then withS b (b.seen.set n (insS (newS b m r) (seenOf b n))) else b
def heldIs (b : Bo) (n r : Nat) : Bool := decide ((seenOf b n).length < 5 ∧ (r : Int) < b.deep)
theorem gc_seen {b : Bo} {n k : Nat} {σ : List AO} {F : List Si} {i2 i3 N f : Nat} (h2 : σ[i2]? = some (.row 1 (rowW b n (.loc i3 k)))) (h3 : σ[i3]? = some (.row 5 ((F.map tSi).map .t))) (hk : k = F.length) (hN : N = b.seen.length) : E.gc [] σ (f + 4) (.loc i2 N) = .t (.slice 1 ((b.seen.set n F).map tSis)) := by
  refine gc_locs rfl h2 (by rw [rowW_len]; exact hN) ?_
  rw [rowW_gc, gc_loc (n := f + 1) rfl h3 (by rw [hk, List.length_map])]
  unfold rowW
  rw [List.map_set, List.map_set]; rfl
theorem gc_bo {b : Bo} {n k : Nat} {σ : List AO} {F : List Si} {i2 i3 N : Nat} {x1 x2 x3 x4 y : T} (h2 : σ[i2]? = some (.row 1 (rowW b n (.loc i3 k)))) (h3 : σ[i3]? = some (.row 5 ((F.map tSi).map .t))) (hk : k = F.length) (hN : N = b.seen.length) : E.gc [] σ 12 (.tup [.agg [.t x1, .t x2, .t x3, .t x4, .loc i2 N], .t y]) = .tup [.t (.agg [x1, x2, x3, x4, .slice 1 ((b.seen.set n F).map tSis)]), .t y] := by
  have hg := gc_seen (f := 6) h2 h3 hk hN
  have h1 : E.gc [] σ 11 (.agg [.t x1, .t x2, .t x3, .t x4, .loc i2 N]) = .t (.agg [x1, x2, x3, x4, .slice 1 ((b.seen.set n F).map tSis)]) := by
    rw [E.gc]
    simp only [List.map_cons, List.map_nil]
    rw [hg]
    rfl
  rw [E.gc]
  simp only [List.map_cons, List.map_nil]
  rw [h1]
  rfl
def zer5 : List E := [.t (vi 0), .t (vi 0), .t (vi 0), .t (vi 0), .t (.lit (.slice none 0 0))]
def He1 (b : Bo) (n m r : Nat) (st : St) : Prop := lk st.env 1 = .t (vi n) ∧ lk st.env 2 = .t (vi m) ∧ lk st.env 3 = .t (vi r) ∧ lk st.env 4 = .ptr 0 0 ∧ lk st.env 8 = .ptr 1 0 ∧ lk st.env 10 = .ptr 2 0 ∧ lk st.env 11 = .t (vb false) ∧ st.σ = [.cells ((bo5 b).map .t), .cells zer5, .cells [.t (vi b.wide), .t (vi b.deep), .t (vi b.speed), .t (vi b.last), .loc 3 b.seen.length], .row 1 (rowW b n (.t (.lit (.slice none 0 0))))] ∧ st.df = [] ∧ st.k = 0
set_option maxRecDepth 8000 in
set_option maxHeartbeats 4000000 in
theorem held_ok (b : Bo) (hb : b.OK) {n : Nat} (hn : n < b.seen.length) (m r : Nat) (hm : m ≤ 12) (hr : r ≤ 12) : ACall Tryd.prog 41 [.t (.agg (bo5 b)), .t (vi n), .t (vi m), .t (vi r)] [] (res (.ret (.tup [.t (.agg (bo5 (heldB b n m r))), .t (vb (heldIs b n r))]))) := by
  refine ACall.walk k41 ?_
  have hs := seenOf_at hn
  have h5 := hb.lens _ (seenOf_mem hn)
  have h4 := hb.num
  have hnl : (n : Int) < b.seen.length := by omega
  unfold heldB heldIs
  generalize hl : seenOf b n = l at *
  generalize hX : (if l.length < 5 ∧ (r : Int) < b.deep then withS b (b.seen.set n (insS (newS b m r) l)) else b) = X
  generalize hY : decide (l.length < 5 ∧ (r : Int) < b.deep) = Y
  unfold c41
  refine awpL_chop 6 (c1 := ?a1) (c2 := ?a2) (fun st => l.length < 5 ∧ (r : Int) < b.deep ∧ He1 b n m r st) ?hc ?_ ?_
  case hc => simp only [chop]; rfl
  · simp only [bo5, tSis, go_sem, Nat.reduceEqDiff, Nat.reduceAdd, List.length_map, List.getElem?_map, hs, Option.map_some]
    cases h1 : decide ((l.length : Int) ≥ 5)
    · have g1 : l.length < 5 := by simp at h1; omega
      simp only [go_sem, Nat.reduceEqDiff, Nat.reduceAdd, Nat.reduceLeDiff, Bool.not_false, beq_self_eq_true, Option.map_some]
      cases h2 : decide ((r : Int) ≥ b.deep)
      · have g2 : (r : Int) < b.deep := by simp at h2; omega
        simp only [tSis, go_sem, Nat.reduceEqDiff, Nat.reduceAdd, Bool.not_false, undef, undef, List.length_map, List.getElem?_map, hs, Option.map_some, hnl]
        exact ⟨⟨Nat.le_trans (show _ ≤ 4 by omega) (by decide), by omega⟩, g1, g2, rfl, rfl, rfl, rfl, rfl, rfl, rfl, rfl, rfl, rfl⟩
      · have g2 : ¬ (l.length < 5 ∧ (r : Int) < b.deep) := by simp at h2; omega
        simp only [go_sem, Nat.reduceEqDiff, Nat.reduceAdd, undef, undef, Option.map_some]
        rw [if_neg g2] at hX
        rw [decide_eq_false g2] at hY
        subst hX hY
        exact finL_ret [] ⟨rfl, rfl, rfl, rfl, _, rfl, res_mk rfl⟩
    · have g2 : ¬ (l.length < 5 ∧ (r : Int) < b.deep) := by simp at h1; omega
      simp only [go_sem, Nat.reduceEqDiff, Nat.reduceAdd, Bool.not_true, undef, undef, Option.map_some]
      rw [if_neg g2] at hX
      rw [decide_eq_false g2] at hY
      subst hX hY
      exact finL_ret [] ⟨rfl, rfl, rfl, rfl, _, rfl, res_mk rfl⟩
  rintro ⟨env, σ, df, k⟩ ⟨g1, g2, q1, q2, q3, q4, q8, q10, q11, hσ, hdf, hk⟩
  simp only at q1 q2 q3 q4 q8 q10 q11 hσ hdf hk
  subst hσ hdf hk
  rw [if_pos ⟨g1, g2⟩] at hX
  rw [decide_eq_true ⟨g1, g2⟩] at hY
  subst hY
  have w1 : IntKind.i64.wrap (b.wide - 1) = b.wide - 1 := wrap_id (by have := hb.wide; omega) (by have := hb.wide; omega)
  have w2 : IntKind.i64.wrap (b.deep - 1) = b.deep - 1 := wrap_id (by have := hb.deep; omega) (by have := hb.deep; omega)
  have c1 := span2_ok 0 (b.wide - 1)
  have c2 := span2_ok r (b.deep - 1)
  have c3 := seen2_ok m 0 (b.wide - 1) r (b.deep - 1)
  have hs3 : (newS b m r).minute = m := rfl
  have hnew : (newS b m r) = ⟨m, 0, b.wide - 1, r, b.deep - 1⟩ := rfl
  have hfin := heTo_end (newS b m r) l
  have hlen : ∀ j ≤ l.length, (heTo (newS b m r) l j).1.length ≤ 6 := fun j hj => by
    have := heTo_len (newS b m r) (l.take j) [] false
    unfold heTo
    simp only [List.length_nil, List.length_take, Nat.min_eq_left hj] at this
    simp only [Bool.false_eq_true, if_false] at this
    omega
  have hstep := fun j (x : Si) (h : l[j]? = some x) => heTo_succ (newS b m r) l h
  have r1 := fun e => rowW_get hn e
  have r2 := fun e e' => show (rowW b n e).set n e' = rowW b n e' by unfold rowW; rw [List.set_set]
  have r3 := fun e => rowW_len b n e
  simp only [bo5, tSis, go_sem, Nat.reduceEqDiff, Nat.reduceAdd, q1, q4, List.length_map, List.getElem?_map, hs, Option.map_some]
  refine awpL_for (i := 44) (L := 43) l.length (fun j st => st = { env := [(44, .t (vi j)), (43, .t (vi l.length)), (42, .t (.slice 5 (l.map tSi))), (1, .t (vi n)), (2, .t (vi m)), (3, .t (vi r)), (4, .t (.ptr (.agg (bo5 b)) 0)), (8, .ptr 0 0), (10, .ptr 1 0), (11, .t (vb (heTo (newS b m r) l j).2))], σ := [.cells zer5, .cells [.t (vi b.wide), .t (vi b.deep), .t (vi b.speed), .t (vi b.last), .loc 2 b.seen.length], .row 1 (rowW b n (.loc 3 (heTo (newS b m r) l j).1.length)), .row 5 (((heTo (newS b m r) l j).1.map tSi).map .t)] }) ?_ ⟨_, Sub.trans (Sub.ghostRE 3 n 5 1 (by decide) (by decide) rfl (rowW_get hn _) (σ' := [.cells ((bo5 b).map .t), .cells zer5, .cells [.t (vi b.wide), .t (vi b.deep), .t (vi b.speed), .t (vi b.last), .loc 3 b.seen.length], .row 1 (rowW b n (.loc 4 0)), .row 5 []]) (by rw [r2]; rfl)) (Sub.gc [1, 2, 3, 4] [44, 43, 42, 1, 2, 3, 4, 8, 10, 11] rfl rfl), ?_⟩ ?_ ?_
  · rintro k s rfl; exact ⟨rfl, rfl⟩
  · refine St.gc_mk ?_ ?_ rfl rfl
    · simp only [List.map_cons, List.map_nil, lk, Nat.reduceEqDiff, reduceIte, q1, q2, q3, q4, q8, q10, q11]; rfl
    · simp only [σgc, List.map_cons, List.map_nil, List.getD_cons_zero, List.getD_cons_succ, AO.gc, rowW_gc]
      rfl
  · rintro j st hj rfl
    have hj' := List.getElem?_eq_getElem hj
    have hst := hstep j _ hj'
    have hle := hlen j (by omega)
    generalize l[j] = x at *
    obtain ⟨x1, x2, x3, x4, x5⟩ := x
    generalize heTo (newS b m r) l j = p at *
    obtain ⟨o, d⟩ := p
    have hwj : IntKind.i64.wrap ((j : Int) + 1) = ((j + 1 : Nat) : Int) := by rw [wrap_id (by omega) (by omega)]; omega
    simp only at hle
    simp only [bo5, zer5, go_sem, Nat.reduceEqDiff, Nat.reduceAdd, undef, undef, List.getElem?_map, hj', Option.map_some, tSi]
    cases d
    · cases h1 : decide (x1 > (m : Int))
      · have he : heStep (newS b m r) (o, false) ⟨x1, x2, x3, x4, x5⟩ = (o ++ [⟨x1, x2, x3, x4, x5⟩], false) := by
          have : ¬ ((m : Int) < x1) := of_decide_eq_false h1
          simp [heStep, hs3, this]
        rw [he] at hst
        simp only [bo5, zer5, go_sem, Nat.reduceEqDiff, Nat.reduceAdd, Nat.reduceLT, Nat.reduceLeDiff, Bool.not_false, undef, beq_self_eq_true, undef, List.length_map, hnl, r1, r2, r3, hwj, List.length_cons, List.length_nil, Nat.zero_add, if_true, h1]
        refine ⟨⟨Nat.le_trans (show _ ≤ 20 by omega) (by decide), by omega⟩, ?_⟩
        refine ⟨_, Sub.gc [0, 1, 2, 3] [44, 43, 42, 1, 2, 3, 4, 8, 10, 11] rfl rfl, ?_⟩
        rw [hst]
        rw [show ((o.map tSi).map E.t ++ [E.t (.agg [vi x1, vi x2, vi x3, vi x4, vi x5])]) = ((o ++ [(⟨x1, x2, x3, x4, x5⟩ : Si)]).map tSi).map E.t by simp [tSi]]
        refine St.gc_mk rfl ?_ rfl rfl
        simp only [σgc, List.map_cons, List.map_nil, List.getD_cons_zero, List.getD_cons_succ, AO.gc, rowW_gc, gc_row]
        rw [List.length_append]
        rfl
      · have he : heStep (newS b m r) (o, false) ⟨x1, x2, x3, x4, x5⟩ = (o ++ [newS b m r, ⟨x1, x2, x3, x4, x5⟩], true) := by
          have : (m : Int) < x1 := of_decide_eq_true h1
          simp [heStep, hs3, this]
        rw [he] at hst
        simp only [go_sem, Nat.reduceEqDiff, Nat.reduceAdd, Nat.reduceLeDiff, Bool.not_false, beq_self_eq_true, hnl, r1, r3, w1, w2, List.length_cons, List.length_nil, Nat.zero_add, if_true, h1]
        refine ACallL.quiet1 c1 rfl rfl rfl ?_
        simp only [go_sem, Nat.reduceEqDiff, Nat.reduceAdd, hnl, r1, r3, List.length_cons, List.length_nil, Nat.zero_add, if_true]
        refine ACallL.quiet1 c2 rfl rfl rfl ?_
        simp only [go_sem, Nat.reduceEqDiff, Nat.reduceAdd, hnl, r1, r3, List.length_cons, List.length_nil, Nat.zero_add, if_true]
        refine ACallL.quiet1 c3 rfl rfl rfl ?_
        simp only [bo5, zer5, go_sem, Nat.reduceEqDiff, Nat.reduceAdd, Nat.reduceLT, Bool.not_false, undef, undef, List.length_map, hnl, r1, r2, r3, hwj, List.length_append, List.length_cons, List.length_nil, Nat.zero_add, if_true]
        refine ⟨⟨Nat.le_trans (show _ ≤ 20 by omega) (by decide), by omega⟩, ⟨Nat.le_trans (show _ ≤ 20 by omega) (by decide), by omega⟩, ?_⟩
        refine ⟨_, Sub.gc [0, 1, 2, 3] [44, 43, 42, 1, 2, 3, 4, 8, 10, 11] rfl rfl, ?_⟩
        rw [hst]
        rw [show ((o.map tSi).map E.t ++ [E.t (.agg [vi (m : Int), vi 0, vi (b.wide - 1), vi (r : Int), vi (b.deep - 1)])] ++ [E.t (.agg [vi x1, vi x2, vi x3, vi x4, vi x5])]) = ((o ++ [newS b m r, (⟨x1, x2, x3, x4, x5⟩ : Si)]).map tSi).map E.t by simp [tSi, newS]]
        refine St.gc_mk rfl ?_ rfl rfl
        simp only [σgc, List.map_cons, List.map_nil, List.getD_cons_zero, List.getD_cons_succ, AO.gc, rowW_gc, gc_row]
        rw [List.length_append]
        rfl
    · have he : heStep (newS b m r) (o, true) ⟨x1, x2, x3, x4, x5⟩ = (o ++ [⟨x1, x2, x3, x4, x5⟩], true) := by simp [heStep]
      rw [he] at hst
      simp only [bo5, zer5, go_sem, Nat.reduceEqDiff, Nat.reduceAdd, Nat.reduceLT, Bool.not_true, Bool.not_false, undef, undef, List.length_map, hnl, r1, r2, r3, hwj, List.length_cons, List.length_nil, Nat.zero_add, if_true]
      refine ⟨⟨Nat.le_trans (show _ ≤ 20 by omega) (by decide), by omega⟩, ?_⟩
      refine ⟨_, Sub.gc [0, 1, 2, 3] [44, 43, 42, 1, 2, 3, 4, 8, 10, 11] rfl rfl, ?_⟩
      rw [hst]
      rw [show ((o.map tSi).map E.t ++ [E.t (.agg [vi x1, vi x2, vi x3, vi x4, vi x5])]) = ((o ++ [(⟨x1, x2, x3, x4, x5⟩ : Si)]).map tSi).map E.t by simp [tSi]]
      refine St.gc_mk rfl ?_ rfl rfl
      simp only [σgc, List.map_cons, List.map_nil, List.getD_cons_zero, List.getD_cons_succ, AO.gc, rowW_gc, gc_row]
      rw [List.length_append]
      rfl
  · rintro st rfl
    rw [← hfin] at hX
    have hle := hlen l.length (Nat.le_refl _)
    generalize heTo (newS b m r) l l.length = p at *
    obtain ⟨o, d⟩ := p
    simp only at hle
    cases d
    · simp only [bo5, zer5, go_sem, Nat.reduceEqDiff, Nat.reduceAdd, Bool.not_false, hnl, r1, r3, w1, w2, List.length_cons, List.length_nil, Nat.zero_add, if_true]
      refine ACallL.quiet1 c1 rfl rfl rfl ?_
      simp only [go_sem, Nat.reduceEqDiff, Nat.reduceAdd, hnl, r1, r3, List.length_cons, List.length_nil, Nat.zero_add, if_true]
      refine ACallL.quiet1 c2 rfl rfl rfl ?_
      simp only [go_sem, Nat.reduceEqDiff, Nat.reduceAdd, hnl, r1, r3, List.length_cons, List.length_nil, Nat.zero_add, if_true]
      refine ACallL.quiet1 c3 rfl rfl rfl ?_
      simp only [go_sem, Nat.reduceEqDiff, Nat.reduceAdd, Nat.reduceLT, Bool.not_false, undef, undef, List.length_map, hnl, r1, r2, r3, List.length_cons, List.length_nil, Nat.zero_add, if_true]
      refine ⟨⟨Nat.le_trans (show _ ≤ 20 by omega) (by decide), by omega⟩, ?_⟩
      subst hX
      refine finL_ret [] ⟨rfl, rfl, rfl, rfl, .tup [.agg [.t (vi b.wide), .t (vi b.deep), .t (vi b.speed), .t (vi b.last), .loc 2 b.seen.length], .t (vb true)], rfl, res_mk ?_⟩
      rw [show heEnd (newS b m r) (o, false) = o ++ [newS b m r] from rfl]
      rw [gc_bo (b := b) (n := n) (i3 := 3) (F := o ++ [newS b m r]) rfl (by simp [tSi, newS]) (by simp) rfl]
      rfl
    · simp only [bo5, zer5, go_sem, Nat.reduceEqDiff, Nat.reduceAdd, Bool.not_true, undef, undef, List.length_cons, List.length_nil, Nat.zero_add, if_true]
      subst hX
      refine finL_ret [] ⟨rfl, rfl, rfl, rfl, .tup [.agg [.t (vi b.wide), .t (vi b.deep), .t (vi b.speed), .t (vi b.last), .loc 2 b.seen.length], .t (vb true)], rfl, res_mk ?_⟩
      rw [show heEnd (newS b m r) (o, true) = o from rfl]
      rw [gc_bo (b := b) (n := n) (i3 := 3) (F := o) rfl (by simp [tSi]) (by simp) rfl]
      rfl
end Go.Proofs.YtafcdpmcmmfbhaaDoor

/- Plain laws: a sighting more; how near a boat came, and its rows. -/
namespace Go.Proofs.YtafcdpmcmmfbhaaDoor
open Go Go.Ab

theorem ins_mem {s x : Si} : ∀ {l : List Si}, x ∈ insS s l ↔ x = s ∨ x ∈ l
  | [] => by simp [insS]
  | y :: l => by
    unfold insS
    split
    · simp
    · rw [List.mem_cons, ins_mem (l := l), List.mem_cons]
      constructor
      · rintro (h | h | h)
        · exact .inr (.inl h)
        · exact .inl h
        · exact .inr (.inr h)
      · rintro (h | h | h)
        · exact .inr (.inl h)
        · exact .inl h
        · exact .inr (.inr h)
theorem ins_len (s : Si) : ∀ l : List Si, (insS s l).length = l.length + 1
  | [] => rfl
  | y :: l => by
    unfold insS
    split
    · rfl
    · rw [List.length_cons, ins_len s l]; rfl
theorem ins_saw {b : Bo} {s : Si} : ∀ {l : List Si} {k : Int}, s.okB b k = true → sawB b k l = true → sawB b k (insS s l) = true
  | [], k, h, _ => by
    show (s.okB b k && true) = true
    rw [h]; rfl
  | x :: l, k, h, hl => by
    unfold insS
    split
    · rename_i hx
      unfold sawB at hl ⊢
      rw [Bool.and_eq_true] at hl ⊢
      refine ⟨h, ?_⟩
      unfold sawB
      rw [Bool.and_eq_true]
      refine ⟨?_, hl.2⟩
      rw [okB_iff] at hl ⊢
      exact ⟨⟨by omega, hl.1.1.2⟩, hl.1.2⟩
    · rename_i hx
      unfold sawB at hl ⊢
      rw [Bool.and_eq_true] at hl ⊢
      refine ⟨hl.1, ins_saw ?_ hl.2⟩
      rw [okB_iff] at h ⊢
      exact ⟨⟨by omega, h.1.2⟩, h.2⟩
/-- Truths with other sightings. -/
theorem tr_seen {b : Bo} {S S' : List (List Si)} {i j row row' : Nat} {c : Nat → Nat} (h : ∀ s' ∈ S'.getD j [], ∀ m ≤ b.L, s'.minute = m → (∃ s ∈ S.getD i [], s.minute = m ∧ (inB b s (c m) = true → inB b s' (c m) = true)) ∨ inB b s' (c m) = true) (hr : ∀ m ≤ b.L, row' ≤ c m / b.W) (hc : TrQ (withS b S) (rowQ (withS b S) i row) c) : TrQ (withS b S') (rowQ (withS b S') j row') c := by
  refine ⟨fun m h1 h2 => ⟨(hc.ok m h1 h2).lt, hr m h2, fun s' hs' hm => ?_⟩, fun m h1 h2 => hc.near m h1 h2⟩
  rw [show (rowQ (withS b S') j row').without = 0 from rfl, kept_nought] at hs'
  rcases h s' hs' m h2 hm with ⟨s, hs, e, hi⟩ | hi
  · refine hi ((hc.ok m h1 h2).saw s ?_ e)
    rw [show (rowQ (withS b S) i row).without = 0 from rfl, kept_nought]
    exact hs
  · exact hi
theorem tr_row {b : Bo} {i row : Nat} {c : Nat → Nat} (hc : TrQ b (rowQ b i row) c) {m : Nat} (hm : m ≤ b.L) : row ≤ c m / b.W := (hc.ok m (Nat.zero_le _) hm).row
theorem set_getD {S : List (List Si)} {n : Nat} (h : n < S.length) (l : List Si) : (S.set n l).getD n [] = l := by
  rw [List.getD_eq_getElem?_getD, List.getElem?_set_self h]; rfl

/-! ### held -/
structure HeldOK (b : Bo) (n m r : Nat) (x : Bo) : Prop where
  ok : x.OK
  tr : ∀ row c, TrQ x (rowQ x n row) c ↔ TrQ b (rowQ b n row) c ∧ r ≤ c m / b.W
  W : x.W = b.W
  D : x.D = b.D
  L : x.L = b.L
  len : x.seen.length = b.seen.length
theorem held_spec {b : Bo} (hb : b.OK) {n m r : Nat} (hn : n < b.seen.length) (hm : m ≤ b.L) (hI : heldIs b n r = true) : HeldOK b n m r (heldB b n m r) := by
  unfold heldIs at hI
  have hI := of_decide_eq_true hI
  have hL := hb.L
  have hD := hb.D
  have hW := hb.W
  have e : heldB b n m r = withS b (b.seen.set n (insS (newS b m r) (seenOf b n))) := by unfold heldB; rw [if_pos hI]
  have hnew : (newS b m r).okB b 0 = true := okB_iff.2 ⟨⟨by show (0 : Int) ≤ m; omega, by show (m : Int) ≤ _; omega⟩, ⟨by show (0 : Int) ≤ 0; omega, by show (0 : Int) ≤ b.wide - 1; omega, by show b.wide - 1 ≤ _; omega⟩, ⟨by show (0 : Int) ≤ r; omega, by show (r : Int) ≤ b.deep - 1; omega, by show b.deep - 1 ≤ _; omega⟩⟩
  have hOK : (withS b (b.seen.set n (insS (newS b m r) (seenOf b n)))).OK := by
    refine withS_OK hb (by rw [List.length_set]; exact hb.num) fun x hx => ?_
    rcases List.mem_or_eq_of_mem_set hx with hx | rfl
    · exact ⟨hb.lens x hx, hb.saw x hx⟩
    · exact ⟨by rw [ins_len]; omega, ins_saw hnew (hb.saw _ (seenOf_mem hn))⟩
  have hin : ∀ p, p < b.N → (inB b (newS b m r) p = true ↔ r ≤ p / b.W) := fun p hp => by
    obtain ⟨h1, h2⟩ := row_lt hb hp
    unfold inB newS
    simp only [Bool.and_eq_true, decide_eq_true_eq]
    omega
  have hg : (b.seen.set n (insS (newS b m r) (seenOf b n))).getD n [] = insS (newS b m r) (seenOf b n) := set_getD hn _
  rw [e]
  refine ⟨hOK, fun row c => ⟨fun hc => ⟨?_, ?_⟩, fun ⟨hc, hr⟩ => ?_⟩, rfl, rfl, rfl, List.length_set ..⟩
  · refine tr_seen (b := b) (S := b.seen.set n (insS (newS b m r) (seenOf b n))) (S' := b.seen) (i := n) (row := row) (fun s hs k hk hsk => .inl ⟨s, ?_, hsk, id⟩) (fun k hk => tr_row hc hk) hc
    rw [hg]; exact ins_mem.2 (.inr hs)
  · have h1 := hc.ok m (Nat.zero_le _) hm
    refine (hin _ h1.lt).1 (h1.saw (newS b m r) ?_ rfl)
    rw [show (rowQ (withS b (b.seen.set n (insS (newS b m r) (seenOf b n)))) n row).without = 0 from rfl, kept_nought, show (withS b (b.seen.set n (insS (newS b m r) (seenOf b n)))).seen.getD (rowQ (withS b (b.seen.set n (insS (newS b m r) (seenOf b n)))) n row).boat [] = insS (newS b m r) (seenOf b n) from hg]
    exact ins_mem.2 (.inl rfl)
  · refine tr_seen (b := b) (S := b.seen) (S' := b.seen.set n (insS (newS b m r) (seenOf b n))) (i := n) (row := row) (fun s hs k hk hsk => ?_) (fun k hk => tr_row hc hk) hc
    rw [hg] at hs
    rcases ins_mem.1 hs with rfl | hs
    · have : m = k := by have : ((m : Nat) : Int) = k := hsk
                         omega
      subst this
      exact .inr ((hin _ (hc.ok m (Nat.zero_le _) hm).lt).2 hr)
    · exact .inl ⟨s, hs, hsk, id⟩
theorem HeldOK.less {b x : Bo} {n m r : Nat} (h : HeldOK b n m r x) : Less x n b n := ⟨h.W.symm, h.D.symm, h.L.symm, fun row c hc => ((h.tr row c).1 hc).1⟩
end Go.Proofs.YtafcdpmcmmfbhaaDoor

/- Plain laws: how near a boat came goes with its rows. -/
namespace Go.Proofs.YtafcdpmcmmfbhaaDoor
open Go Go.Ab

theorem canM_bit {b : Bo} (hb : b.OK) {i m : Nat} (hm : m ≤ b.L) (p : Nat) : (canM b i m).testBit p = true ↔ ∃ c, TrQ b (rowQ b i 0) c ∧ c m = p := canAt_bit hb (plainQ b i) hm p
theorem canM_ne {b : Bo} (hb : b.OK) {i m : Nat} (hm : m ≤ b.L) (hT : isT b i = true) : canM b i m ≠ 0 := (canAt_ne0 hb (plainQ b i) hm).2 ((canQ_iff hb _).1 hT)
theorem near_le {b : Bo} (hb : b.OK) {i : Nat} (hT : isT b i = true) : loR b (nearAll b i) ≤ nearHi b i := by
  apply Classical.byContradiction
  intro h
  obtain ⟨c, hc⟩ := (canQ_iff hb (plainQ b i)).1 hT
  have h1 : canQ b (rowQ b i (nearHi b i + 1)) = true := (canQ_iff hb _).2 ⟨c, fun m h1 h2 => ⟨(hc.ok m h1 h2).lt, by
    have := (near_lo hb hT).2 m h2 (c m) ((canM_bit hb h2 _).2 ⟨c, hc, rfl⟩)
    show nearHi b i + 1 ≤ c m / b.W
    omega, (hc.ok m h1 h2).saw⟩, hc.near⟩
  rw [(nearHi_spec hb i).1.2] at h1
  cases h1
theorem near_tr {b : Bo} (hb : b.OK) {i : Nat} (hT : isT b i = true) : ∃ c, TrQ b (rowQ b i (nearHi b i)) c := by
  cases h : nearHi b i with
  | zero => exact (canQ_iff hb (plainQ b i)).1 hT
  | succ k => exact (canQ_iff hb _).1 ((nearHi_spec hb i).2 k (by omega))
theorem tr_zero {b : Bo} {i row : Nat} {c : Nat → Nat} (hc : TrQ b (rowQ b i row) c) : TrQ b (rowQ b i 0) c := ⟨fun m h1 h2 => ⟨(hc.ok m h1 h2).lt, Nat.zero_le _, (hc.ok m h1 h2).saw⟩, hc.near⟩
theorem tr_rows {b : Bo} {i row row' : Nat} {c : Nat → Nat} (hr : ∀ m ≤ b.L, row' ≤ c m / b.W) (hc : TrQ b (rowQ b i row) c) : TrQ b (rowQ b i row') c := ⟨fun m h1 h2 => ⟨(hc.ok m h1 h2).lt, hr m h2, (hc.ok m h1 h2).saw⟩, hc.near⟩
theorem near_hi_le {b : Bo} (hb : b.OK) {i m : Nat} (hm : m ≤ b.L) (hT : isT b i = true) : nearHi b i ≤ hiR b (canM b i m) := by
  obtain ⟨c, hc⟩ := near_tr hb hT
  exact Nat.le_trans (tr_row hc hm) ((span_hi (b := b) (canM_ne hb hm hT)).2 _ ((canM_bit hb hm _).2 ⟨c, tr_zero hc, rfl⟩))
def leastR (b : Bo) (i j : Nat) : Nat := (List.range j).foldl (fun a k => min a (loR b (canM b i k))) b.D
def mostR (b : Bo) (i j : Nat) : Nat := (List.range j).foldl (fun a k => min a (hiR b (canM b i k))) b.D
theorem leastR_succ (b : Bo) (i j : Nat) : leastR b i (j + 1) = min (leastR b i j) (loR b (canM b i j)) := by
  unfold leastR; rw [List.range_succ, List.foldl_append]; rfl
theorem mostR_succ (b : Bo) (i j : Nat) : mostR b i (j + 1) = min (mostR b i j) (hiR b (canM b i j)) := by
  unfold mostR; rw [List.range_succ, List.foldl_append]; rfl
theorem leastR_spec (b : Bo) (i : Nat) : ∀ j, (∀ k < j, leastR b i j ≤ loR b (canM b i k)) ∧ leastR b i j ≤ b.D ∧ (leastR b i j = b.D ∨ ∃ k < j, leastR b i j = loR b (canM b i k))
  | 0 => ⟨fun k hk => by omega, Nat.le_refl _, .inl rfl⟩
  | j + 1 => by
    obtain ⟨h1, h2, h3⟩ := leastR_spec b i j
    rw [leastR_succ]
    refine ⟨fun k hk => ?_, by omega, ?_⟩
    · by_cases e : k = j
      · subst e; omega
      · have := h1 k (by omega); omega
    · by_cases e : leastR b i j ≤ loR b (canM b i j)
      · rw [Nat.min_eq_left e]
        rcases h3 with h | ⟨k, hk, h⟩
        · exact .inl h
        · exact .inr ⟨k, by omega, h⟩
      · rw [Nat.min_eq_right (by omega)]
        exact .inr ⟨j, by omega, rfl⟩
theorem bit_row {b : Bo} (hb : b.OK) {i m p : Nat} (hm : m ≤ b.L) (h : (canM b i m).testBit p = true) : p / b.W < b.D := by
  obtain ⟨c, hc, rfl⟩ := (canM_bit hb hm p).1 h
  exact (row_lt hb (hc.ok m (Nat.zero_le _) hm).lt).2
theorem lo_spec {b : Bo} (hb : b.OK) {i m : Nat} (hm : m ≤ b.L) (hT : isT b i = true) : (∃ p, (canM b i m).testBit p = true ∧ p / b.W = loR b (canM b i m)) ∧ ∀ p, (canM b i m).testBit p = true → loR b (canM b i m) ≤ p / b.W := span_lo (canM_lt hb i m) (canM_ne hb hm hT)
theorem hi_spec {b : Bo} (hb : b.OK) {i m : Nat} (hm : m ≤ b.L) (hT : isT b i = true) : (∃ p, (canM b i m).testBit p = true ∧ p / b.W = hiR b (canM b i m)) ∧ ∀ p, (canM b i m).testBit p = true → p / b.W ≤ hiR b (canM b i m) := span_hi (canM_ne hb hm hT)
theorem lo_hi {b : Bo} (hb : b.OK) {i m : Nat} (hm : m ≤ b.L) (hT : isT b i = true) : loR b (canM b i m) ≤ hiR b (canM b i m) := by
  obtain ⟨⟨p, h1, h2⟩, _⟩ := lo_spec hb hm hT
  have := (hi_spec hb hm hT).2 p h1
  omega
theorem leastR_end {b : Bo} (hb : b.OK) {i : Nat} (hT : isT b i = true) : leastR b i (b.L + 1) = loR b (nearAll b i) := by
  obtain ⟨h1, h2, h3⟩ := leastR_spec b i (b.L + 1)
  obtain ⟨⟨m, hm, p, hp, e⟩, h4⟩ := near_lo hb hT
  have h5 := (lo_spec hb hm hT).2 p hp
  have h6 := h1 m (by omega)
  have h7 := bit_row hb hm hp
  rcases h3 with h | ⟨k, hk, h⟩
  · omega
  · obtain ⟨⟨q, hq, e2⟩, _⟩ := lo_spec hb (i := i) (m := k) (by omega) hT
    have := h4 k (by omega) q hq
    omega
theorem mostR_ge {b : Bo} (hb : b.OK) {i : Nat} (hT : isT b i = true) : ∀ j ≤ b.L + 1, nearHi b i ≤ mostR b i j
  | 0, _ => (nearHi_spec hb i).1.1
  | j + 1, h => by
    have := mostR_ge hb hT j (by omega)
    have := near_hi_le hb (i := i) (m := j) (by omega) hT
    rw [mostR_succ]; omega
theorem leastR_le (b : Bo) (i : Nat) : ∀ j, leastR b i j ≤ b.D := fun j => (leastR_spec b i j).2.1
theorem mostR_le (b : Bo) (i : Nat) : ∀ j, mostR b i j ≤ b.D
  | 0 => Nat.le_refl _
  | j + 1 => by have := mostR_le b i j; rw [mostR_succ]; omega
theorem hi_lt {b : Bo} (hb : b.OK) {i m : Nat} (hm : m ≤ b.L) (hT : isT b i = true) : hiR b (canM b i m) < b.D := by
  obtain ⟨⟨p, h1, h2⟩, _⟩ := hi_spec hb hm hT
  have := bit_row hb hm h1
  omega
/-- One seen in rows from one on in a minute, too. -/
theorem held_can {b x : Bo} (hb : b.OK) {n m r : Nat} (hm : m ≤ b.L) (H : HeldOK b n m r x) (hT : isT b n = true) : isT x n = decide (r ≤ hiR b (canM b n m)) := by
  rw [Bool.eq_iff_iff, decide_eq_true_eq, canQ_iff H.ok]
  constructor
  · rintro ⟨c, hc⟩
    obtain ⟨h1, h2⟩ := (H.tr 0 c).1 hc
    exact Nat.le_trans h2 ((hi_spec hb hm hT).2 _ ((canM_bit hb hm _).2 ⟨c, h1, rfl⟩))
  · intro h
    obtain ⟨⟨p, h1, h2⟩, _⟩ := hi_spec hb hm hT
    obtain ⟨c, hc, rfl⟩ := (canM_bit hb hm p).1 h1
    exact ⟨c, (H.tr 0 c).2 ⟨hc, by omega⟩⟩
theorem held_at {b x : Bo} (hb : b.OK) {n m r : Nat} (hm : m ≤ b.L) (H : HeldOK b n m r x) (p : Nat) : (canM x n m).testBit p = true ↔ (canM b n m).testBit p = true ∧ r ≤ p / b.W := by
  rw [canM_bit H.ok (by rw [H.L]; exact hm), canM_bit hb hm]
  constructor
  · rintro ⟨c, hc, rfl⟩
    exact ⟨⟨c, ((H.tr 0 c).1 hc).1, rfl⟩, ((H.tr 0 c).1 hc).2⟩
  · rintro ⟨⟨c, hc, rfl⟩, h⟩
    exact ⟨c, (H.tr 0 c).2 ⟨hc, h⟩, rfl⟩
theorem held_law {b x : Bo} (hb : b.OK) {n m r : Nat} (hm : m ≤ b.L) (H : HeldOK b n m r x) (hT : isT b n = true) (hx : isT x n = true) :
    loR b (canM b n m) ≤ loR x (canM x n m) ∧ r ≤ loR x (canM x n m) ∧ hiR x (canM x n m) = hiR b (canM b n m) ∧ loR b (nearAll b n) ≤ loR x (nearAll x n) ∧ nearHi x n ≤ nearHi b n ∧ (r ≤ nearHi b n → nearHi x n = nearHi b n) := by
  have hxm : m ≤ x.L := by rw [H.L]; exact hm
  have hL := H.less
  obtain ⟨⟨p, h1, h2⟩, _⟩ := lo_spec H.ok hxm hx
  obtain ⟨⟨q, h3, h4⟩, h5⟩ := hi_spec H.ok hxm hx
  obtain ⟨⟨u, h6, h7⟩, h8⟩ := hi_spec hb hm hT
  rw [H.W] at h2 h4 h5
  have h1' := (held_at hb hm H p).1 h1
  have h3' := (held_at hb hm H q).1 h3
  have h9 := (lo_spec hb hm hT).2 p h1'.1
  have h10 := h8 q h3'.1
  have hru : r ≤ u / b.W := by
    have := held_can hb hm H hT
    rw [hx] at this
    have := of_decide_eq_true this.symm
    omega
  have h11 := h5 u ((held_at hb hm H u).2 ⟨h6, hru⟩)
  have hHi := hL.hi H.ok hb
  refine ⟨by omega, by omega, by omega, hL.lo H.ok hb hx, hHi, fun hr => Nat.le_antisymm hHi ?_⟩
  obtain ⟨c, hc⟩ := near_tr hb hT
  apply Classical.byContradiction
  intro hlt
  have h12 : canQ x (rowQ x n (nearHi x n + 1)) = true := (canQ_iff H.ok _).2 ⟨c, (H.tr _ c).2 ⟨tr_rows (fun k hk => Nat.le_trans (by omega) (tr_row hc hk)) hc, Nat.le_trans hr (tr_row hc hm)⟩⟩
  rw [(nearHi_spec H.ok n).1.2] at h12
  cases h12
theorem saw_iff {b : Bo} : ∀ {l : List Si} {m : Int}, 0 ≤ m → (sawB b m l = true ↔ (∀ s ∈ l, s.OK b ∧ m ≤ s.minute) ∧ l.Pairwise fun a c => a.minute ≤ c.minute)
  | [], m, _ => by simp [sawB]
  | x :: l, m, hm => by
    unfold sawB
    rw [Bool.and_eq_true, okB_iff, List.pairwise_cons]
    constructor
    · rintro ⟨⟨h1, h2, h3⟩, h4⟩
      obtain ⟨h5, h6⟩ := (saw_iff (by omega)).1 h4
      refine ⟨fun s hs => ?_, fun s hs => (h5 s hs).2, h6⟩
      rcases List.mem_cons.1 hs with rfl | hs
      · exact ⟨⟨⟨by omega, h1.2⟩, h2, h3⟩, h1.1⟩
      · exact ⟨(h5 s hs).1, by have := (h5 s hs).2; omega⟩
    · rintro ⟨h1, h2, h3⟩
      obtain ⟨h4, h5⟩ := h1 x (List.mem_cons_self ..)
      exact ⟨⟨⟨h5, h4.min.2⟩, h4.col, h4.row⟩, (saw_iff h4.min.1).2 ⟨fun s hs => ⟨(h1 s (List.mem_cons_of_mem _ hs)).1, h2 s hs⟩, h3⟩⟩
theorem specRows_ok {b : Bo} (hb : b.OK) {i m : Nat} (hi : i < b.seen.length) (hm : m ≤ b.L) : specRows b i m = if isT b i then ((((loR b (canM b i m) : Nat) : Int), ((hiR b (canM b i m) : Nat) : Int)), 0) else ((0, 0), 10) := by
  have h1 : b.isBoat i = true := isBoat_iff.2 ⟨by omega, by omega⟩
  have h2 : b.isMinute m = true := isMinute_iff.2 ⟨by omega, by have := hb.L; omega⟩
  unfold specRows
  rw [(b.ok_iff).2 hb, h1, h2, Int.toNat_natCast, Int.toNat_natCast]; rfl
theorem specBroke_ok {b : Bo} (hb : b.OK) {i r : Nat} (hi : i < b.seen.length) (hr : r ≤ b.D) : specBroke b i r = if isT b i then (brokeN (nearS b i) r, 0) else (0, 10) := by
  have h1 : b.isBoat i = true := isBoat_iff.2 ⟨by omega, by omega⟩
  have h2 : wI (r : Int) 0 b.deep = true := wI_iff.2 ⟨by omega, by have := hb.D; omega⟩
  unfold specBroke
  rw [(b.ok_iff).2 hb, h1, h2, Int.toNat_natCast]; rfl
end Go.Proofs.YtafcdpmcmmfbhaaDoor
