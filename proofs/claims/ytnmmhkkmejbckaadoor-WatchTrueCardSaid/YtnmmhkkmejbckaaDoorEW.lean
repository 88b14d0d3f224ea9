/- Proved here: laws that the statements need (WaC3d, WaTA, WaTB). No conditions but those that each law states. -/
import Derived.Test.YtnmmhkkmejbckaaDoorFL
import Derived.Test.YtnmmhkkmejbckaaDoorFP
import Derived.Test.YtnmmhkkmejbckaaDoorProg
import Derived.Test.YtnmmhkkmejbckaaDoorEN

set_option linter.unusedSimpArgs false
set_option linter.unusedVariables false

/- Compiled code of functions, printed by program; each is checked to be the program's. No conditions. -/
namespace Go.Proofs.YtnmmhkkmejbckaaDoor
open Go Go.Ab
/-- dipworks/dipworkslaw07.draws -/
def c22 : AC :=
 .seq (.reg [⟨(some 1), none, .box (.tmp 0)⟩,
 ⟨(some 2), none, .mov (.lit .nilFunc)⟩])
 (.seq (.reg [⟨(some 3), none, .alloc [(.int .i64 0)]⟩,
 ⟨none, none, .store 1 (.tmp 3) (.lit (.int .i64 0))⟩])
 (.seq (.reg [⟨(some 4), none, .mkfn (.func 60) [] [(.tmp 3), (.tmp 1)]⟩,
 ⟨(some 2), none, .mov (.tmp 4)⟩])
 (.ret)))
theorem k22 : FnC Tryd.prog 22 5 [] [] [.tmp 2] c22 1 := ⟨Tryd.f22, _, Tryd.func22, rfl, by decide, rfl, by decide, by kernel_rfl, by kernel_rfl⟩
/-- dipworks/dipworkslaw07.draws$1 -/
def c60 : AC :=
 .seq (.reg [⟨(some 4), none, .mov (.lit (.int .i64 0))⟩])
 (.seq (.reg [⟨(some 5), none, .load false 1 (.tmp 1)⟩,
 ⟨(some 6), none, .bin .add (.tmp 5) (.lit (.int .i64 1))⟩,
 ⟨none, none, .store 1 (.tmp 1) (.tmp 6)⟩])
 (.seq (.seq (.reg [⟨(some 7), none, .load false 1 (.tmp 2)⟩,
 ⟨(some 8), none, .len (.tmp 7)⟩,
 ⟨(some 9), none, .bin .eql (.tmp 8) (.lit (.int .i64 0))⟩])
 (.cond (.tmp 9) (.seq (.reg [⟨(some 10), none, .load false 1 (.tmp 1)⟩,
 ⟨(some 11), none, .mov (.tmp 0)⟩,
 ⟨(some 12), none, .bin .rem (.tmp 10) (.tmp 11)⟩,
 ⟨(some 4), none, .mov (.tmp 12)⟩])
 (.ret))
 (.skip)))
 (.seq (.draw (.step ⟨(some 13), none, .load false 1 (.tmp 2)⟩ (
 .step ⟨(some 14), none, .load false 1 (.tmp 1)⟩ (
 .step ⟨(some 15), none, .load false 1 (.tmp 2)⟩ (
 .step ⟨(some 16), none, .len (.tmp 15)⟩ (
 .step ⟨(some 17), none, .bin .rem (.tmp 14) (.tmp 16)⟩ (
 .step ⟨(some 18), none, .iaddr 1 (.tmp 13) (.tmp 17)⟩ (
 .step ⟨(some 19), none, .load false 1 (.tmp 18)⟩ (
 .step ⟨(some 20), none, .conv .i64 (.tmp 19)⟩ (
 .step ⟨(some 21), none, .load false 1 (.tmp 1)⟩ (
 .step ⟨(some 22), none, .bin .mul (.lit (.int .i64 73)) (.tmp 21)⟩ (
 .step ⟨(some 23), none, .bin .add (.tmp 20) (.tmp 22)⟩ (
 .step ⟨(some 24), none, .mov (.tmp 0)⟩ (
 .step ⟨(some 25), none, .bin .rem (.tmp 23) (.tmp 24)⟩ (
 .step ⟨(some 4), none, .mov (.tmp 25)⟩ (
 .done))))))))))))))))
 (.ret))))
theorem k60 : FnC Tryd.prog 60 26 [] [] [.tmp 4] c60 3 := ⟨Tryd.f60, _, Tryd.func60, rfl, by decide, rfl, by decide, by kernel_rfl, by kernel_rfl⟩
/-- dipworks/dipworkslaw07.made -/
def c23 : AC :=
 .seq (.reg [⟨(some 2), none, .alloc [(.slice none 0 0), (.slice none 0 0)]⟩,
 ⟨(some 3), none, .mov (.lit (.slice none 0 0))⟩])
 (.seq (.seq (.reg [⟨(some 12), none, .mov (.tmp 0)⟩,
 ⟨(some 13), none, .call (.tmp 12) [(.lit (.int .i64 5))]⟩,
 ⟨(some 14), none, .bin .add (.lit (.int .i64 1)) (.tmp 13)⟩,
 ⟨(some 15), none, .mov (.lit (.int .i64 0))⟩])
 (.block 0 (.loop (.seq (.reg [⟨(some 16), none, .bin .lss (.tmp 15) (.tmp 14)⟩])
 (.seq (.cond (.tmp 16) (.skip)
 (.exit 0))
 (.seq (.block 1 (.seq (.reg [⟨(some 17), none, .mov (.tmp 0)⟩,
 ⟨(some 18), none, .call (.tmp 17) [(.lit (.int .i64 19))]⟩,
 ⟨(some 19), none, .bin .sub (.tmp 18) (.lit (.int .i64 10))⟩,
 ⟨(some 4), none, .mov (.tmp 19)⟩])
 (.draw (.step ⟨(some 20), none, .faddr 0 (.tmp 2)⟩ (
 .step ⟨(some 21), none, .load false 1 (.tmp 20)⟩ (
 .step ⟨(some 22), none, .mov (.tmp 0)⟩ (
 .step ⟨(some 24), none, .mov (.tmp 4)⟩ (
 .step ⟨(some 25), none, .mov (.tmp 4)⟩ (
 .step ⟨(some 26), none, .mov (.tmp 0)⟩ (
 .step ⟨(some 30), none, .mov (.tmp 0)⟩ (
 .ev ⟨(some 23), none, .call (.tmp 22) [(.lit (.int .i64 700))]⟩ [⟨(some 21), none, .load false 1 (.tmp 20)⟩, ⟨(some 20), none, .faddr 0 (.tmp 2)⟩] (
 .ev ⟨(some 27), none, .call (.tmp 26) [(.lit (.int .i64 3))]⟩ [⟨(some 21), none, .load false 1 (.tmp 20)⟩, ⟨(some 20), none, .faddr 0 (.tmp 2)⟩] (
 .step ⟨(some 28), none, .bin .add (.tmp 25) (.tmp 27)⟩ (
 .step ⟨(some 29), none, .mxmn false (.lit (.int .i64 10)) [(.tmp 28)]⟩ (
 .ev ⟨(some 31), none, .call (.tmp 30) [(.lit (.int .i64 64))]⟩ [⟨(some 21), none, .load false 1 (.tmp 20)⟩, ⟨(some 20), none, .faddr 0 (.tmp 2)⟩] (
 .ev ⟨(some 32), none, .call (.fn 32) [(.tmp 23), (.tmp 24), (.tmp 29), (.tmp 31)]⟩ [⟨(some 21), none, .load false 1 (.tmp 20)⟩, ⟨(some 20), none, .faddr 0 (.tmp 2)⟩] (
 .ev ⟨(some 33), none, .bslice 4 (.agg #[(.int .i64 0), (.int .i64 0), (.int .i64 0), (.int .i64 0)]) 1 [(0, (.tmp 32))]⟩ [⟨(some 21), none, .load false 1 (.tmp 20)⟩, ⟨(some 20), none, .faddr 0 (.tmp 2)⟩] (
 .ev ⟨(some 34), none, .app 4 32 (.tmp 21) (.tmp 33)⟩ [⟨(some 20), none, .faddr 0 (.tmp 2)⟩] (
 .step ⟨(some 35), none, .faddr 0 (.tmp 2)⟩ (
 .ev ⟨none, none, .store 1 (.tmp 35) (.tmp 34)⟩ [] (
 .done)
 (.stop)))
 (.stop))
 (.stop))
 (.stop))
 (.stop))))
 (.stop))
 (.stop))))))))))))
 (.reg [⟨(some 36), none, .bin .add (.tmp 15) (.lit (.int .i64 1))⟩,
 ⟨(some 15), none, .mov (.tmp 36)⟩])))))))
 (.seq (.seq (.reg [⟨(some 37), none, .faddr 0 (.tmp 2)⟩,
 ⟨(some 38), none, .load false 1 (.tmp 37)⟩,
 ⟨(some 39), none, .len (.tmp 38)⟩,
 ⟨(some 40), none, .mov (.lit (.int .i64 0))⟩])
 (.block 2 (.loop (.seq (.reg [⟨(some 41), none, .bin .lss (.tmp 40) (.tmp 39)⟩])
 (.seq (.cond (.tmp 41) (.skip)
 (.exit 2))
 (.seq (.block 3 (.seq (.reg [⟨(some 42), none, .mov (.tmp 40)⟩,
 ⟨(some 5), none, .mov (.tmp 42)⟩])
 (.seq (.seq (.reg [⟨(some 43), none, .mov (.tmp 3)⟩,
 ⟨(some 44), none, .len (.tmp 43)⟩,
 ⟨(some 45), none, .bin .eql (.tmp 44) (.lit (.int .i64 4))⟩,
 ⟨(some 46), none, .mov (.tmp 45)⟩,
 ⟨(some 47), (some (46, false)), .mov (.tmp 0)⟩,
 ⟨(some 48), (some (46, false)), .call (.tmp 47) [(.lit (.int .i64 3))]⟩,
 ⟨(some 49), (some (46, false)), .bin .eql (.tmp 48) (.lit (.int .i64 0))⟩,
 ⟨(some 50), none, .pick (.tmp 46) (.lit (.bool true)) (.tmp 49)⟩])
 (.cond (.tmp 50) (.exit 3)
 (.skip)))
 (.seq (.reg [⟨(some 51), none, .faddr 0 (.tmp 2)⟩,
 ⟨(some 52), none, .load false 1 (.tmp 51)⟩,
 ⟨(some 53), none, .mov (.tmp 5)⟩,
 ⟨(some 54), none, .iaddr 4 (.tmp 52) (.tmp 53)⟩,
 ⟨(some 6), none, .mov (.tmp 54)⟩])
 (.seq (.reg [⟨(some 55), none, .mov (.tmp 0)⟩,
 ⟨(some 56), none, .call (.tmp 55) [(.lit (.int .i64 6))]⟩,
 ⟨(some 7), none, .mov (.tmp 56)⟩])
 (.seq (.draw (.step ⟨(some 57), none, .mov (.tmp 6)⟩ (
 .step ⟨(some 58), none, .nilck (.tmp 57)⟩ (
 .step ⟨(some 59), none, .faddr 3 (.tmp 58)⟩ (
 .step ⟨(some 60), none, .load false 1 (.tmp 59)⟩ (
 .step ⟨(some 61), none, .mov (.tmp 7)⟩ (
 .step ⟨(some 62), none, .bin .shl (.lit (.int .i64 1)) (.tmp 61)⟩ (
 .step ⟨(some 63), none, .bin .or (.tmp 60) (.tmp 62)⟩ (
 .step ⟨(some 64), none, .nilck (.tmp 57)⟩ (
 .step ⟨(some 65), none, .faddr 3 (.tmp 64)⟩ (
 .ev ⟨none, none, .store 1 (.tmp 65) (.tmp 63)⟩ [⟨(some 64), none, .nilck (.tmp 57)⟩] (
 .done)
 (.stop))))))))))))
 (.seq (.draw (.step ⟨(some 66), none, .mov (.tmp 6)⟩ (
 .step ⟨(some 67), none, .nilck (.tmp 66)⟩ (
 .step ⟨(some 68), none, .faddr 1 (.tmp 67)⟩ (
 .step ⟨(some 69), none, .faddr 0 (.tmp 68)⟩ (
 .step ⟨(some 70), none, .load false 1 (.tmp 69)⟩ (
 .step ⟨(some 71), none, .mov (.tmp 0)⟩ (
 .step ⟨(some 72), none, .mov (.tmp 6)⟩ (
 .step ⟨(some 73), none, .nilck (.tmp 72)⟩ (
 .step ⟨(some 74), none, .faddr 1 (.tmp 73)⟩ (
 .step ⟨(some 75), none, .faddr 1 (.tmp 74)⟩ (
 .step ⟨(some 76), none, .load false 1 (.tmp 75)⟩ (
 .step ⟨(some 77), none, .mov (.tmp 6)⟩ (
 .step ⟨(some 78), none, .nilck (.tmp 77)⟩ (
 .step ⟨(some 79), none, .faddr 1 (.tmp 78)⟩ (
 .step ⟨(some 80), none, .faddr 0 (.tmp 79)⟩ (
 .step ⟨(some 81), none, .load false 1 (.tmp 80)⟩ (
 .step ⟨(some 82), none, .bin .sub (.tmp 76) (.tmp 81)⟩ (
 .step ⟨(some 83), none, .bin .add (.tmp 82) (.lit (.int .i64 1))⟩ (
 .ev ⟨(some 84), none, .call (.tmp 71) [(.tmp 83)]⟩ [⟨(some 81), none, .load false 1 (.tmp 80)⟩, ⟨(some 80), none, .faddr 0 (.tmp 79)⟩, ⟨(some 79), none, .faddr 1 (.tmp 78)⟩, ⟨(some 78), none, .nilck (.tmp 77)⟩, ⟨(some 76), none, .load false 1 (.tmp 75)⟩, ⟨(some 75), none, .faddr 1 (.tmp 74)⟩, ⟨(some 74), none, .faddr 1 (.tmp 73)⟩, ⟨(some 73), none, .nilck (.tmp 72)⟩, ⟨(some 70), none, .load false 1 (.tmp 69)⟩, ⟨(some 69), none, .faddr 0 (.tmp 68)⟩, ⟨(some 68), none, .faddr 1 (.tmp 67)⟩, ⟨(some 67), none, .nilck (.tmp 66)⟩] (
 .step ⟨(some 85), none, .bin .add (.tmp 70) (.tmp 84)⟩ (
 .step ⟨(some 8), none, .mov (.tmp 85)⟩ (
 .done)))
 (.stop)))))))))))))))))))))
 (.seq (.draw (.step ⟨(some 86), none, .mov (.tmp 6)⟩ (
 .step ⟨(some 87), none, .nilck (.tmp 86)⟩ (
 .step ⟨(some 88), none, .faddr 0 (.tmp 87)⟩ (
 .step ⟨(some 89), none, .load false 1 (.tmp 88)⟩ (
 .step ⟨(some 90), none, .mov (.tmp 0)⟩ (
 .ev ⟨(some 91), none, .call (.tmp 90) [(.lit (.int .i64 500))]⟩ [⟨(some 89), none, .load false 1 (.tmp 88)⟩, ⟨(some 88), none, .faddr 0 (.tmp 87)⟩, ⟨(some 87), none, .nilck (.tmp 86)⟩] (
 .step ⟨(some 92), none, .bin .add (.tmp 89) (.tmp 91)⟩ (
 .step ⟨(some 9), none, .mov (.tmp 92)⟩ (
 .done)))
 (.stop))))))))
 (.seq (.reg [⟨(some 93), none, .mov (.tmp 6)⟩,
 ⟨(some 94), none, .nilck (.tmp 93)⟩,
 ⟨(some 95), none, .load true 4 (.tmp 94)⟩,
 ⟨(some 96), none, .mov (.tmp 9)⟩,
 ⟨(some 97), none, .mov (.tmp 8)⟩,
 ⟨(some 98), none, .call (.fn 28) [(.tmp 95), (.tmp 96), (.tmp 97)]⟩,
 ⟨(some 10), none, .mov (.tmp 98)⟩])
 (.seq (.reg [⟨(some 99), none, .mov (.tmp 7)⟩,
 ⟨(some 100), none, .mov (.tmp 9)⟩,
 ⟨(some 101), none, .mov (.tmp 10)⟩,
 ⟨(some 102), none, .mov (.tmp 0)⟩,
 ⟨(some 103), none, .call (.tmp 102) [(.lit (.int .i64 10))]⟩,
 ⟨(some 104), none, .bin .sub (.tmp 101) (.tmp 103)⟩,
 ⟨(some 105), none, .mxmn true (.lit (.int .i64 0)) [(.tmp 104)]⟩,
 ⟨(some 106), none, .mov (.tmp 10)⟩,
 ⟨(some 107), none, .mov (.tmp 0)⟩,
 ⟨(some 108), none, .call (.tmp 107) [(.lit (.int .i64 10))]⟩,
 ⟨(some 109), none, .bin .add (.tmp 106) (.tmp 108)⟩,
 ⟨(some 110), none, .mxmn false (.lit (.int .i64 719)) [(.tmp 109)]⟩,
 ⟨(some 111), none, .mov (.tmp 0)⟩,
 ⟨(some 112), none, .call (.tmp 111) [(.lit (.int .i64 2))]⟩,
 ⟨(some 113), none, .bin .eql (.tmp 112) (.lit (.int .i64 0))⟩,
 ⟨(some 114), none, .call (.fn 33) [(.tmp 99), (.tmp 100), (.tmp 105), (.tmp 110), (.tmp 113)]⟩,
 ⟨(some 11), none, .alloc [(.int .i64 0), (.int .i64 0), (.int .i64 0), (.int .i64 0), (.bool false)]⟩,
 ⟨none, none, .store 5 (.tmp 11) (.tmp 114)⟩])
 (.seq (.seq (.reg [⟨(some 115), none, .faddr 4 (.tmp 11)⟩,
 ⟨(some 116), none, .load false 1 (.tmp 115)⟩])
 (.cond (.tmp 116) (.reg [⟨(some 117), none, .mov (.tmp 9)⟩,
 ⟨(some 118), none, .mov (.tmp 0)⟩,
 ⟨(some 119), none, .call (.tmp 118) [(.lit (.int .i64 200))]⟩,
 ⟨(some 120), none, .bin .add (.tmp 117) (.tmp 119)⟩,
 ⟨(some 121), none, .mxmn false (.lit (.int .i64 1440)) [(.tmp 120)]⟩,
 ⟨(some 122), none, .faddr 1 (.tmp 11)⟩,
 ⟨none, none, .store 1 (.tmp 122) (.tmp 121)⟩])
 (.skip)))
 (.reg [⟨(some 123), none, .faddr 1 (.tmp 2)⟩,
 ⟨(some 124), none, .load false 1 (.tmp 123)⟩,
 ⟨(some 125), none, .load true 5 (.tmp 11)⟩,
 ⟨(some 126), none, .bslice 5 (.agg #[(.int .i64 0), (.int .i64 0), (.int .i64 0), (.int .i64 0), (.bool false)]) 1 [(0, (.tmp 125))]⟩,
 ⟨(some 127), none, .app 5 40 (.tmp 124) (.tmp 126)⟩,
 ⟨(some 128), none, .mov (.tmp 3)⟩,
 ⟨(some 129), none, .mov (.tmp 5)⟩,
 ⟨(some 130), none, .mov (.tmp 9)⟩,
 ⟨(some 131), none, .build [(.int .i64 0), (.int .i64 0)] [(0, 1, (.tmp 129)), (1, 1, (.tmp 130))]⟩,
 ⟨(some 132), none, .bslice 2 (.agg #[(.int .i64 0), (.int .i64 0)]) 1 [(0, (.tmp 131))]⟩,
 ⟨(some 133), none, .app 2 16 (.tmp 128) (.tmp 132)⟩,
 ⟨(some 134), none, .faddr 1 (.tmp 2)⟩,
 ⟨none, none, .store 1 (.tmp 134) (.tmp 127)⟩,
 ⟨(some 3), none, .mov (.tmp 133)⟩]))))))))))))
 (.reg [⟨(some 135), none, .bin .add (.tmp 40) (.lit (.int .i64 1))⟩,
 ⟨(some 40), none, .mov (.tmp 135)⟩])))))))
 (.seq (.reg [⟨(some 136), none, .load true 2 (.tmp 2)⟩,
 ⟨(some 137), none, .mov (.tmp 3)⟩,
 ⟨none, none, .store 2 (.tmp 2) (.tmp 136)⟩,
 ⟨(some 3), none, .mov (.tmp 137)⟩])
 (.ret))))
theorem k23 : FnC Tryd.prog 23 138 [2] [] [.cell 2 true 2, .tmp 3] c23 1 := ⟨Tryd.f23, _, Tryd.func23, rfl, by decide, rfl, by decide, by kernel_rfl, by kernel_rfl⟩
end Go.Proofs.YtnmmhkkmejbckaaDoor

/- WatchTrue: what is drawn; watches that are made, and whose each find truly is. -/
namespace Go.Proofs.YtnmmhkkmejbckaaDoor
open Go Go.Ab

def tBy (ws : List Nat) : T := .slice 1 (ws.map fun w : Nat => .lit (.int .u16 w))

set_option maxRecDepth 4000 in
theorem draw_ok (ws : List Nat) (hw : ∀ w ∈ ws, w < 65536) (hl : ws.length < 9223372036854775808) (n a : Nat) (hn : 0 < n) (hn2 : n < 1000) (ha : a < 100000) :
    ACall Tryd.prog 60 [.t (vi n), .ptr 0 0, .ptr 1 0] [.cells [.t (vi a)], .cells [.t (tBy ws)]] fun o σ' => ∃ v : Nat, v < n ∧ o = .ret (.t (vi v)) ∧ σ' = [.cells [.t (vi (a + 1 : Nat))], .cells [.t (tBy ws)]] := by
  refine ACall.walk k60 ?_
  unfold c60 tBy
  have w1 : IntKind.i64.wrap ((a : Int) + 1) = ((a + 1 : Nat) : Int) := by rw [wrap_id (by omega) (by omega)]; omega
  have n0 : ((n : Int) = 0) = False := eq_false (by omega)
  simp only [go_sem, Nat.reduceEqDiff, Nat.reduceAdd, undef, w1, List.length_map]
  cases h : ((ws.length : Int) == 0)
  rotate_left
  · have t1 : ((a + 1 : Nat) : Int).tmod n = (((a + 1) % n : Nat) : Int) := mod_nat _ _
    simp only [go_sem, Nat.reduceEqDiff, Nat.reduceAdd, n0, t1]
    exact finL_ret [0, 1] ⟨rfl, rfl, rfl, rfl, _, rfl, _, Nat.mod_lt _ hn, rfl, rfl⟩
  · have hp : 0 < ws.length := by
      have : ¬ (ws.length : Int) = 0 := by simpa using h
      omega
    have n1 : ((ws.length : Int) = 0) = False := eq_false (by omega)
    have t1 : ((a + 1 : Nat) : Int).tmod ws.length = (((a + 1) % ws.length : Nat) : Int) := mod_nat _ _
    have hlt := Nat.mod_lt (a + 1) hp
    have hg : ws[(a + 1) % ws.length]? = some ws[(a + 1) % ws.length] := List.getElem?_eq_getElem hlt
    have hv := hw _ (List.getElem_mem hlt)
    generalize ws[(a + 1) % ws.length] = v at *
    have w2 : IntKind.i64.wrap (v : Int) = v := wrap_id (by omega) (by omega)
    have w3 : IntKind.i64.wrap (73 * ((a + 1 : Nat) : Int)) = ((73 * (a + 1) : Nat) : Int) := by rw [wrap_id (by omega) (by omega)]; omega
    have w4 : IntKind.i64.wrap ((v : Int) + ((73 * (a + 1) : Nat) : Int)) = ((v + 73 * (a + 1) : Nat) : Int) := by rw [wrap_id (by omega) (by omega)]; omega
    have t2 : ((v + 73 * (a + 1) : Nat) : Int).tmod n = (((v + 73 * (a + 1)) % n : Nat) : Int) := mod_nat _ _
    have hi0 : ((((a + 1) % ws.length : Nat) : Int) < 0) = False := eq_false (by omega)
    simp only [go_sem, Nat.reduceEqDiff, Nat.reduceAdd, n0, n1, t1, List.getElem?_map, hg, Option.map_some, w2, w3, w4, t2, List.length_map]
    exact finL_ret [0, 1] ⟨rfl, rfl, rfl, rfl, _, rfl, _, Nat.mod_lt _ hn, rfl, rfl⟩

/-- The same over whatever store. -/
theorem draw_at (ws : List Nat) (hw : ∀ w ∈ ws, w < 65536) (hl : ws.length < 9223372036854775808) {n a p q : Nat} {σ : List AO} {R : Lz (Out → List AO → Prop)} (hn : 0 < n) (hn2 : n < 1000) (ha : a < 100000) (hp : σ[p]? = some (.cells [.t (vi a)])) (hq : σ[q]? = some (.cells [.t (tBy ws)])) (hpq : p ≠ q)
    (hk : ∀ v : Nat, v < n → R.get (.ret (.t (vi v))) (σ.set p (.cells [.t (vi (a + 1 : Nat))]))) : @ACallL Tryd.prog 60 [.t (vi n), .ptr p 0, .ptr q 0] σ R := by
  have h := draw_ok ws hw hl n a hn hn2 ha
  have hpl := (List.getElem?_eq_some_iff.1 hp).1
  have hql := (List.getElem?_eq_some_iff.1 hq).1
  have e0 : lendR [p, q] σ.length 0 = p := rfl
  have e1 : lendR [p, q] σ.length 1 = q := rfl
  refine ACall.mono (ACall.lend [p, q] h (by simpa using hpq) (by simp; omega) rfl (fun i o ho => ?_) (args := [.t (vi n), .ptr p 0, .ptr q 0]) (by simp [E.rens_map, E.ren, e0, e1])) ?_
  · match i, ho with
    | 0, ho => simp at ho; subst ho; simp only [AO.ren, E.rens_map]; simp [E.ren, e0, hp]
    | 1, ho => simp at ho; subst ho; simp only [AO.ren, E.rens_map]; simp [E.ren, e1, hq]
  · rintro o σ1 ⟨o0, σ0, ⟨v, hv, rfl, rfl⟩, _, rfl, rfl⟩
    have := hk v hv
    simp only [List.map_cons, List.map_nil, AO.ren, E.rens_map, lendB, Out.ren, E.ren, List.append_nil] at this ⊢
    have hs : (σ.set p (.cells [.t (vi (a + 1 : Nat))])).set q (.cells [.t (tBy ws)]) = σ.set p (.cells [.t (vi (a + 1 : Nat))]) := by
      apply List.ext_getElem?
      intro i
      by_cases hi : i = q
      · subst hi
        rw [List.getElem?_set_self (by simpa using hql), List.getElem?_set_ne hpq, hq]
      · rw [List.getElem?_set_ne (fun e => hi e.symm)]
    rw [hs]
    exact this
theorem draws_ok (ws : List Nat) : ACall Tryd.prog 22 [.t (tBy ws)] [] fun o σ' => o = .ret (.fn (.func 60) [] [.ptr 0 0, .ptr 1 0]) ∧ σ' = [.cells [.t (vi 0)], .cells [.t (tBy ws)]] := by
  refine ACall.walk k22 ?_
  unfold c22 tBy
  simp only [go_sem, Nat.reduceEqDiff, undef]
  exact finL_ret [1, 0] ⟨rfl, rfl, rfl, rfl, _, rfl, rfl, rfl⟩

/-! ### The watches that are made -/
structure Mad (os : List Ow) (fs : List Fi) (l : List (Nat × Int)) (j : Nat) : Prop where
  n1 : 1 ≤ os.length
  n5 : os.length ≤ 5
  n4 : fs.length ≤ 4
  oks : ∀ o ∈ os, o.OK ∧ o.set_ < 700
  fks : ∀ f ∈ fs, f.OK
  len : l.length = fs.length
  inc : l.Pairwise fun a b => a.1 < b.1
  lt : ∀ x ∈ l, x.1 < j
  at_ : ∀ (k i : Nat) (m : Int), l[k]? = some (i, m) → ∃ f o, fs[k]? = some f ∧ os[i]? = some o ∧ m ∈ minsL o f
theorem Mad.skip {os : List Ow} {fs : List Fi} {l : List (Nat × Int)} {j : Nat} (h : Mad os fs l j) : Mad os fs l (j + 1) :=
  { h with lt := fun x hx => by have := h.lt x hx; omega }
theorem Mad.push {os : List Ow} {fs : List Fi} {l : List (Nat × Int)} {j : Nat} (h : Mad os fs l j) (hj : j < os.length) (h4 : l.length < 4) {o : Ow} {f : Fi} {m : Int} (ho : o.OK ∧ o.set_ < 700) (hf : f.OK) (hm : m ∈ minsL o f) : Mad (os.set j o) (fs ++ [f]) (l ++ [(j, m)]) (j + 1) := by
  have hl := h.len
  refine ⟨by rw [List.length_set]; exact h.n1, by rw [List.length_set]; exact h.n5, by simp; omega, fun x hx => ?_, fun x hx => ?_, by simp [hl], ?_, fun x hx => ?_, fun k i m' hk => ?_⟩
  · rcases List.mem_or_eq_of_mem_set hx with hx | rfl
    · exact h.oks x hx
    · exact ho
  · rcases List.mem_append.1 hx with hx | hx
    · exact h.fks x hx
    · rw [List.mem_singleton] at hx; rw [hx]; exact hf
  · refine List.pairwise_append.2 ⟨h.inc, by simp, fun a ha b hb => ?_⟩
    rw [List.mem_singleton] at hb
    subst hb
    exact h.lt a ha
  · rcases List.mem_append.1 hx with hx | hx
    · have := h.lt x hx; omega
    · rw [List.mem_singleton] at hx; subst hx; simp only; omega
  · by_cases hkl : k < l.length
    · rw [List.getElem?_append_left hkl] at hk
      obtain ⟨f', o', a, b, c⟩ := h.at_ k i m' hk
      have hij := h.lt _ (List.mem_of_getElem? hk)
      simp only at hij
      exact ⟨f', o', by rw [List.getElem?_append_left (by omega)]; exact a, by rw [List.getElem?_set_ne (by omega)]; exact b, c⟩
    · have hlt := (List.getElem?_eq_some_iff.1 hk).1
      rw [List.length_append, List.length_singleton] at hlt
      obtain rfl : k = l.length := by omega
      rw [List.getElem?_append_right (Nat.le_refl _), Nat.sub_self] at hk
      cases hk
      exact ⟨f, o, by rw [hl, List.getElem?_append_right (Nat.le_refl _), Nat.sub_self]; rfl, List.getElem?_set_self hj, hm⟩
theorem Mad.OK {os : List Ow} {fs : List Fi} {l : List (Nat × Int)} {j : Nat} (h : Mad os fs l j) : Wa.OK ⟨os, fs⟩ := ⟨h.n5, h.n4, fun o ho => (h.oks o ho).1, h.fks⟩
/-- A find that shows what a watch shows, in a hut in which its owner was. -/
theorem made_mem {o : Ow} (ho : o.OK) {hut : Nat} (hh : hut < 6) {m g : Int} (hm : o.set_ ≤ m) (hg : o.lo ≤ g ∧ g ≤ o.hi) {lo hi : Int} (h1 : lo ≤ dialI o m g) (h2 : dialI o m g ≤ hi) (st : Bool) {e : Int} (he : if st then m ≤ e else e = m) :
    m ∈ minsL { o with huts := ((o.huts.toNat ||| 2 ^ hut : Nat) : Int) } ⟨(hut : Int), e, lo, hi, st⟩ := by
  have hat : atB { o with huts := ((o.huts.toNat ||| 2 ^ hut : Nat) : Int) } ⟨(hut : Int), e, lo, hi, st⟩ m = true := by
    unfold atB
    rw [Bool.and_eq_true]
    constructor
    · unfold hutB
      simp only [Int.toNat_natCast]
      rw [Nat.testBit_or, Nat.testBit_two_pow_self, Bool.or_true]
    · unfold seen
      rw [List.any_eq_true]
      refine ⟨dialI o m g, ?_, ?_⟩
      · unfold handsL
        rw [if_pos (show _ ≤ m from hm)]
        exact List.mem_map.2 ⟨g, mem_rngI.2 hg, rfl⟩
      · unfold wI
        exact decide_eq_true ⟨h1, h2⟩
  unfold minsL
  cases st
  · simp only [Bool.false_eq_true, if_false] at he ⊢
    subst he
    exact List.mem_filter.2 ⟨List.mem_singleton.2 rfl, hat⟩
  · simp only [if_true] at he ⊢
    exact List.mem_filter.2 ⟨mem_rngI.2 ⟨hm, he⟩, hat⟩
def tTr (x : Nat × Int) : T := .agg [vi x.1, vi x.2]

/-! ### The truth -/
theorem Mad.truth {os : List Ow} {fs : List Fi} {l : List (Nat × Int)} {j : Nat} (h : Mad os fs l j) : l.map (·.1) ∈ truths (Wa.fits ⟨os, fs⟩) := by
  refine truths_mem.2 ⟨?_, ?_, fun p i hp => ?_⟩
  · unfold Wa.fits
    rw [List.length_map, List.length_map, h.len]
  · refine List.Pairwise.imp ?_ (List.pairwise_map.2 h.inc)
    intro a b hab e
    omega
  · rw [List.getElem?_map] at hp
    cases hx : l[p]? with
    | none => rw [hx] at hp; cases hp
    | some x =>
      obtain ⟨i', m⟩ := x
      rw [hx] at hp
      cases hp
      obtain ⟨f, o, a, b, c⟩ := h.at_ p i' m hx
      have h5 := h.n5
      have := (List.getElem?_eq_some_iff.1 b).1
      refine ⟨?_, by simp only; omega⟩
      unfold Wa.fits
      rw [List.getD_eq_getElem?_getD, List.getElem?_map, a]
      show (fitN os f).testBit i' = true
      rw [fitN_bit, fitP_at b]
      unfold fitB
      cases hm : minsL o f with
      | nil => rw [hm] at c; cases c
      | cons _ _ => rfl
/-- Each minute that is told is in one of the spans. -/
theorem spans_in {L : List Int} (h : L.Pairwise (· < ·)) : ∀ x ∈ L, ∃ p ∈ spansL L, p.1 ≤ x ∧ x ≤ p.2 := by
  suffices hh : ∀ n, ∀ x ∈ L.take n, ∃ p ∈ spansL (L.take n), p.1 ≤ x ∧ x ≤ p.2 by
    have := hh L.length
    rwa [List.take_length] at this
  intro n
  induction n with
  | zero => intro x hx; simp at hx
  | succ n ih =>
    rw [List.take_add_one]
    cases hx : L[n]? with
    | none => simpa using ih
    | some y =>
      rw [Option.toList_some, spansL_snoc]
      have hP := spans_P (h.sublist (List.take_sublist n L))
      intro x hxm
      unfold stepS
      cases hg : (spansL (L.take n)).getLast? with
      | none =>
        have e := List.getLast?_eq_none_iff.1 hg
        simp only
        rcases List.mem_append.1 hxm with hxm | hxm
        · obtain ⟨p, hp, -⟩ := ih x hxm
          rw [e] at hp; cases hp
        · rw [List.mem_singleton] at hxm
          exact ⟨(y, y), by simp, by omega, by omega⟩
      | some q =>
        simp only
        have hq : q ∈ spansL (L.take n) := List.mem_of_getLast? hg
        have hq1 := (hP.each q hq).1
        by_cases hc : q.2 = y - 1
        · rw [if_pos hc]
          rcases List.mem_append.1 hxm with hxm | hxm
          · obtain ⟨p, hp, h1, h2⟩ := ih x hxm
            have hsp : spansL (L.take n) = (spansL (L.take n)).dropLast ++ [q] := by
              obtain ⟨Y, e⟩ := List.getLast?_eq_some_iff.1 hg
              rw [e]; simp
            rw [hsp] at hp
            rcases List.mem_append.1 hp with hp | hp
            · exact ⟨p, List.mem_append.2 (.inl hp), h1, h2⟩
            · rw [List.mem_singleton] at hp
              subst hp
              exact ⟨(p.1, y), by simp, h1, by simp only; omega⟩
          · rw [List.mem_singleton] at hxm
            exact ⟨(q.1, y), by simp, by simp only; omega, by simp only; omega⟩
        · rw [if_neg hc]
          rcases List.mem_append.1 hxm with hxm | hxm
          · obtain ⟨p, hp, h1, h2⟩ := ih x hxm
            exact ⟨p, List.mem_append.2 (.inl hp), h1, h2⟩
          · rw [List.mem_singleton] at hxm
            exact ⟨(y, y), by simp, by omega, by omega⟩
end Go.Proofs.YtnmmhkkmejbckaaDoor

/- WatchTrue: watches are made as they are drawn. -/
namespace Go.Proofs.YtnmmhkkmejbckaaDoor
open Go Go.Ab

def drwF : E := .fn (.func 60) [] [.ptr 0 0, .ptr 1 0]
def atC (a : Nat) : AO := .cells [.t (vi a)]
def byC (ws : List Nat) : AO := .cells [.t (tBy ws)]
def rwO (l : List Ow) : AO := .row 4 ((l.map tOw).map .t)
def rwF (l : List Fi) : AO := .row 5 ((l.map tFi).map .t)
def rwT (l : List (Nat × Int)) : AO := .row 2 ((l.map tTr).map .t)
set_option maxRecDepth 8000 in
set_option maxHeartbeats 8000000 in
theorem made_ok (ws : List Nat) (hw : ∀ w ∈ ws, w < 65536) (hl : ws.length < 9223372036854775808) : ACall Tryd.prog 23 [drwF] [atC 0, byC ws] fun o σ' => ∃ (w : Wa) (l : List (Nat × Int)), Mad w.os w.fs l w.os.length ∧ o = .ret (.tup [.t (tWa w), .t (.slice 2 (l.map tTr))]) ∧ ∃ a, σ' = [atC a, byC ws] := by
  refine ACall.walk k23 ?_
  unfold c23
  refine awpL_chop 2 (c1 := ?a1) (c2 := ?a2) (fun st => ∃ (os : List Ow) (a : Nat), 1 ≤ os.length ∧ os.length ≤ 5 ∧ (∀ o ∈ os, o.OK ∧ o.set_ < 700) ∧ a ≤ 30 ∧ lk st.env 0 = drwF ∧ lk st.env 2 = .ptr 2 0 ∧ lk st.env 3 = .t (.lit (.slice none 0 0)) ∧ st.σ = [atC a, byC ws, .cells [.loc 3 os.length, .t (.lit (.slice none 0 0))], rwO os] ∧ st.df = [] ∧ st.k = 0) ?hc ?_ ?_
  case hc => simp only [chop]; rfl
  · unfold drwF atC byC tBy
    simp only [go_sem, Nat.reduceEqDiff, Nat.reduceAdd]
    refine draw_at ws hw hl (p := 0) (q := 1) (n := 5) (a := 0) (by omega) (by omega) (by omega) rfl rfl (by decide) fun v hv => ?_
    have w1 : IntKind.i64.wrap (1 + (v : Int)) = ((1 + v : Nat) : Int) := by rw [wrap_id (by omega) (by omega)]; omega
    simp only [go_sem, Nat.reduceEqDiff, List.set_cons_zero, w1]
    refine awpL_loopK (1 + v) (fun j s => ∃ (os : List Ow) (a : Nat), os.length = j ∧ (∀ o ∈ os, o.OK ∧ o.set_ < 700) ∧ a ≤ 1 + 4 * j ∧ s = { env := [(15, .t (vi j)), (0, drwF), (2, .ptr 2 0), (3, .t (.lit (.slice none 0 0))), (14, .t (vi (1 + v : Nat)))], σ := [atC a, byC ws, .cells [.loc 3 j, .t (.lit (.slice none 0 0))], rwO os] })
      ⟨_, (Sub.ghostC 2 0 4 (by decide) rfl rfl).trans (Sub.gc [0, 1, 2, 3] [15, 0, 2, 3, 14] rfl rfl), [], 1, rfl, by simp, by omega, rfl⟩ ?_
    rintro j s hj ⟨os, a, hlen, hos, ha, rfl⟩
    have hj0 : ((j : Int) < 0) = False := eq_false (by omega)
    cases g : decide ((j : Int) < ((1 + v : Nat) : Int))
    · have hje : j = 1 + v := by have := of_decide_eq_false g; omega
      subst hje
      simp only [go_sem, Nat.reduceEqDiff, Nat.reduceAdd, g]
      exact ⟨os, a, by omega, by omega, hos, by omega, by rw [hlen]; exact ⟨rfl, rfl⟩⟩
    have hjl : j < 1 + v := by have := of_decide_eq_true g; omega
    have hw1 : IntKind.i64.wrap ((j : Int) + 1) = ((j + 1 : Nat) : Int) := by rw [wrap_id (by omega) (by omega)]; omega
    have x1 : (j + 1 ≤ maxLen) = True := eq_true (by unfold maxLen; omega)
    have x2 : ((j + 1) * 32 ≤ 140737488355328) = True := eq_true (by omega)
    unfold drwF atC byC rwO
    simp only [go_sem, Nat.reduceEqDiff, g]
    refine draw_at ws hw hl (p := 0) (q := 1) (n := 19) (a := a) (by omega) (by omega) (by omega) rfl rfl (by decide) fun v1 hv1 => ?_
    have q1 : IntKind.i64.wrap ((v1 : Int) - 10) = (v1 : Int) - 10 := wrap_id (by omega) (by omega)
    simp only [go_sem, Nat.reduceEqDiff, Nat.reduceAdd, Nat.reduceLeDiff, List.set_cons_zero, q1]
    refine draw_at ws hw hl (p := 0) (q := 1) (n := 700) (a := a + 1) (by omega) (by omega) (by omega) rfl rfl (by decide) fun v2 hv2 => ?_
    simp only [go_sem, Nat.reduceEqDiff, Nat.reduceAdd, Nat.reduceLeDiff, List.set_cons_zero]
    refine draw_at ws hw hl (p := 0) (q := 1) (n := 3) (a := a + 1 + 1) (by omega) (by omega) (by omega) rfl rfl (by decide) fun v3 hv3 => ?_
    have q2 : IntKind.i64.wrap ((v1 : Int) - 10 + v3) = (v1 : Int) - 10 + v3 := wrap_id (by omega) (by omega)
    simp only [go_sem, Nat.reduceEqDiff, Nat.reduceAdd, Nat.reduceLeDiff, List.set_cons_zero, q2]
    refine draw_at ws hw hl (p := 0) (q := 1) (n := 64) (a := a + 1 + 1 + 1) (by omega) (by omega) (by omega) rfl rfl (by decide) fun v4 hv4 => ?_
    simp only [go_sem, Nat.reduceEqDiff, Nat.reduceAdd, Nat.reduceLeDiff, List.set_cons_zero]
    refine ACallL.quiet1 (owner_ok v2 ((v1 : Int) - 10) (min 10 ((v1 : Int) - 10 + v3)) v4) rfl rfl rfl ?_
    have happ : (os.map tOw).map E.t ++ [.t (.agg [vi v2, vi ((v1 : Int) - 10), vi (min 10 ((v1 : Int) - 10 + v3)), vi v4])] = ((os ++ [(⟨v2, (v1 : Int) - 10, min 10 ((v1 : Int) - 10 + v3), v4⟩ : Ow)]).map tOw).map E.t := by rw [List.map_append, List.map_append]; rfl
    simp only [go_sem, Nat.reduceEqDiff, Nat.reduceAdd, Nat.reduceLT, Nat.reduceLeDiff, undef, List.set_cons_succ, List.set_cons_zero, List.length_map, hlen, x1, x2, happ, hw1]
    refine ⟨hjl, _, Sub.gc [0, 1, 2, 3] [15, 0, 2, 3, 14] rfl rfl, os ++ [(⟨v2, (v1 : Int) - 10, min 10 ((v1 : Int) - 10 + v3), v4⟩ : Ow)], a + 1 + 1 + 1 + 1, by simp [hlen], fun o ho => ?_, by omega, St.gc_mk rfl (by unfold σgc; simp only [List.map_cons, List.map_nil, List.getD_cons_zero, List.getD_cons_succ, AO.gc, gc_row]; rfl) rfl rfl⟩
    rcases List.mem_append.1 ho with ho | ho
    · exact hos o ho
    · rw [List.mem_singleton] at ho
      subst ho
      exact ⟨⟨by simp only; omega, by simp only; omega, by simp only; omega⟩, by simp only; omega⟩
  rintro ⟨env, σ, df, dk⟩ ⟨os, a, hn1, hn5, hos, ha, p0, p2, p3, hσ, hdf, hk⟩
  simp only at p0 p2 p3 hσ hdf hk
  subst hσ hdf hk
  unfold rwO
  simp only [go_sem, Nat.reduceEqDiff, Nat.reduceAdd, Nat.reduceLeDiff, p2, List.length_map]
  refine awpL_loopK os.length (fun j s => ∃ (os' : List Ow) (fs : List Fi) (l : List (Nat × Int)) (b : Nat), os'.length = os.length ∧ Mad os' fs l j ∧ b ≤ 30 + 10 * j ∧ s = { env := [(40, .t (vi j)), (0, drwF), (2, .ptr 2 0), (3, .loc 5 fs.length), (39, .t (vi os.length))], σ := [atC b, byC ws, .cells [.loc 3 os.length, .loc 4 fs.length], rwO os', rwF fs, rwT l] })
    ⟨_, (Sub.ghostC 2 1 5 (by decide) rfl rfl).trans ((Sub.ghost 3 2 (by decide) (by simp only [lk, Nat.reduceEqDiff, reduceIte, p3])).trans (Sub.gc [0, 1, 2, 3, 4, 5] [40, 0, 2, 3, 39] rfl rfl)), os, [], [], a, rfl, ⟨hn1, hn5, by simp, hos, by simp, rfl, by simp, by simp, by simp⟩, by omega, ?_⟩ ?_
  · exact St.gc_mk (by simp only [List.map_cons, List.map_nil, lk, Nat.reduceEqDiff, reduceIte, p0, p2, p3]; rfl) (by unfold σgc atC byC; simp only [List.map_cons, List.map_nil, List.getD_cons_zero, List.getD_cons_succ, List.set_cons_zero, List.set_cons_succ, List.cons_append, List.nil_append, AO.gc, gc_row]; rfl) rfl rfl
  clear p0 p2 p3 env hos ha a
  rintro j s hj ⟨os', fs, l, b, hos', hM, hb, rfl⟩
  have hj0 : ((j : Int) < 0) = False := eq_false (by omega)
  have hml := hM.len
  have hm4 := hM.n4
  have hwj : IntKind.i64.wrap ((j : Int) + 1) = ((j + 1 : Nat) : Int) := by rw [wrap_id (by omega) (by omega)]; omega
  cases g : decide ((j : Int) < os.length)
  · have hje : j = os.length := by have := of_decide_eq_false g; omega
    subst hje
    unfold atC byC rwO rwF rwT drwF
    simp only [go_sem, Nat.reduceEqDiff, Nat.reduceAdd, undef, g]
    refine finL_ret [0, 1] ⟨rfl, rfl, rfl, rfl, _, rfl, ⟨os', fs⟩, l, by rw [← hos'] at hM; exact hM, ?_, b, rfl⟩
    refine congrArg Out.ret ?_
    have key : ∀ σ : List AO, σ[3]? = some (.row 4 ((os'.map tOw).map .t)) → σ[4]? = some (.row 5 ((fs.map tFi).map .t)) → σ[5]? = some (.row 2 ((l.map tTr).map .t)) → E.gc [0, 1] σ 12 (.tup [.agg [.loc 3 os.length, .loc 4 fs.length], .loc 5 fs.length]) = .tup [.t (tWa ⟨os', fs⟩), .t (.slice 2 (l.map tTr))] := fun σ h1 h2 h3 => by
      have e1 : E.gc [0, 1] σ 11 (.agg [.loc 3 os.length, .loc 4 fs.length]) = .t (tWa ⟨os', fs⟩) := by
        rw [E.gc]
        simp only [List.map_cons, List.map_nil]
        rw [gc_loc (n := 8) rfl h1 (by simp [hos']), gc_loc (n := 8) rfl h2 (by simp)]
        rfl
      rw [E.gc]
      simp only [List.map_cons, List.map_nil]
      rw [e1, gc_loc (n := 9) rfl h3 (by simp [hml])]
    exact key _ rfl rfl rfl
  have hjl : j < os.length := by have := of_decide_eq_true g; omega
  have hfin : ∀ (b' : Nat), b' ≤ 30 + 10 * (j + 1) → ∃ (os'' : List Ow) (fs' : List Fi) (l' : List (Nat × Int)) (b'' : Nat), os''.length = os.length ∧ Mad os'' fs' l' (j + 1) ∧ b'' ≤ 30 + 10 * (j + 1) ∧ ({ env := [(40, .t (vi (j + 1 : Nat))), (0, drwF), (2, .ptr 2 0), (3, .loc 5 fs.length), (39, .t (vi os.length))], σ := [atC b', byC ws, .cells [.loc 3 os.length, .loc 4 fs.length], rwO os', rwF fs, rwT l] } : St) = { env := [(40, .t (vi (j + 1 : Nat))), (0, drwF), (2, .ptr 2 0), (3, .loc 5 fs'.length), (39, .t (vi os.length))], σ := [atC b'', byC ws, .cells [.loc 3 os.length, .loc 4 fs'.length], rwO os'', rwF fs', rwT l'] } := fun b' hb' => ⟨os', fs, l, b', hos', hM.skip, hb', rfl⟩
  cases h4 : ((fs.length : Int) == 4)
  rotate_left
  · unfold rwT
    simp only [go_sem, Nat.reduceEqDiff, Nat.reduceAdd, Bool.not_true, undef, g, List.length_map, hml, h4, hwj]
    exact ⟨hjl, _, Sub.gc [0, 1, 2, 3, 4, 5] [40, 0, 2, 3, 39] rfl rfl, os', fs, l, b, hos', hM.skip, by omega, St.gc_mk rfl (by unfold σgc atC byC rwO rwF; simp only [List.map_cons, List.map_nil, List.getD_cons_zero, List.getD_cons_succ, AO.gc, gc_row]; rfl) rfl rfl⟩
  clear hfin
  have hl4 : l.length < 4 := by
    have : ¬ ((fs.length : Int) = 4) := by simpa using h4
    omega
  unfold drwF atC byC rwO rwF rwT
  simp only [go_sem, Nat.reduceEqDiff, beq_self_eq_true, g, List.length_map, hml, h4]
  refine draw_at ws hw hl (p := 0) (q := 1) (n := 3) (a := b) (by omega) (by omega) (by omega) rfl rfl (by decide) fun v1 hv1 => ?_
  cases hz : ((v1 : Int) == 0)
  rotate_left
  · simp only [go_sem, Nat.reduceEqDiff, Nat.reduceAdd, undef, beq_self_eq_true, List.set_cons_succ, List.set_cons_zero, hz, hwj]
    exact ⟨hjl, _, Sub.gc [0, 1, 2, 3, 4, 5] [40, 0, 2, 3, 39] rfl rfl, os', fs, l, b + 1, hos', hM.skip, by omega, St.gc_mk rfl (by unfold σgc; simp only [List.map_cons, List.map_nil, List.getD_cons_zero, List.getD_cons_succ, AO.gc, gc_row]; rfl) rfl rfl⟩
  have hx : os'[j]? = some os'[j] := List.getElem?_eq_getElem (by omega)
  have hxo := hM.oks _ (List.getElem_mem (show j < os'.length by omega))
  generalize os'[j] = x at *
  have hto : tOw x = .agg [vi x.set_, vi x.lo, vi x.hi, vi x.huts] := rfl
  have hjj : ((j : Int) < (os.length : Int)) = True := eq_true (by omega)
  have hxh := hxo.1.huts
  have hxg := hxo.1.gain
  have hxs := hxo.1.set_
  have hxs7 := hxo.2
  obtain ⟨H, hH⟩ : ∃ H : Nat, x.huts = H := ⟨x.huts.toNat, by omega⟩
  rw [hH] at hto
  obtain ⟨S, hS⟩ : ∃ S : Nat, x.set_ = S := ⟨x.set_.toNat, by omega⟩
  obtain ⟨D, hD⟩ : ∃ D : Nat, x.hi - x.lo = D := ⟨(x.hi - x.lo).toNat, by omega⟩
  have w1 : IntKind.i64.wrap (x.hi - x.lo) = (D : Int) := by rw [wrap_id (by omega) (by omega)]; exact hD
  have w2 : IntKind.i64.wrap ((D : Int) + 1) = ((D + 1 : Nat) : Int) := by rw [wrap_id (by omega) (by omega)]; omega
  simp only [go_sem, Nat.reduceEqDiff, Nat.reduceAdd, Nat.reduceLeDiff, beq_self_eq_true, List.set_cons_zero, hz, hjj, List.length_map, hos']
  refine draw_at ws hw hl (p := 0) (q := 1) (n := 6) (a := b + 1) (by omega) (by omega) (by omega) rfl rfl (by decide) fun hut hhut => ?_
  have hp : 2 ^ hut ≤ 2 ^ 5 := Nat.pow_le_pow_right (by omega) (by omega)
  have hn0 : ((hut : Int) < 0) = False := eq_false (by omega)
  have hshl : IntKind.i64.wrap (1 * 2 ^ (min hut 64)) = ((2 ^ hut : Nat) : Int) := shl_one (by omega)
  have hor : bits .or .i64 (H : Int) ((2 ^ hut : Nat) : Int) = ((H ||| 2 ^ hut : Nat) : Int) := bits_or (by omega) (by omega)
  have hset : ((os'.map tOw).map E.t).set j (E.t (.agg [vi x.set_, vi x.lo, vi x.hi, .lit (.int .i64 ((H ||| 2 ^ hut : Nat) : Int))])) = ((os'.set j { x with huts := ((H ||| 2 ^ hut : Nat) : Int) }).map tOw).map E.t := by rw [List.map_set, List.map_set]; rfl
  have hHt : x.huts.toNat = H := by rw [hH]; rfl
  have hget : (os'.set j { x with huts := ((H ||| 2 ^ hut : Nat) : Int) })[j]? = some { x with huts := ((H ||| 2 ^ hut : Nat) : Int) } := List.getElem?_set_self (by omega)
  have hor64 : H ||| 2 ^ hut < 64 := Nat.or_lt_two_pow (n := 6) (by omega) (by omega)
  have hmem := fun (m g : Int) => made_mem hxo.1 hhut (m := m) (g := g)
  rw [hHt] at hmem
  have hdl := fun (m g : Int) => dial_ok { x with huts := ((H ||| 2 ^ hut : Nat) : Int) } m g
  have hde : ∀ m g, dialI { x with huts := ((H ||| 2 ^ hut : Nat) : Int) } m g = dialI x m g := fun m g => rfl
  have hxo' : ({ x with huts := ((H ||| 2 ^ hut : Nat) : Int) } : Ow).OK := ⟨hxs, hxg, by simp only; omega⟩
  have htx : tOw { x with huts := ((H ||| 2 ^ hut : Nat) : Int) } = .agg [vi x.set_, vi x.lo, vi x.hi, vi (H ||| 2 ^ hut : Nat)] := rfl
  have hlset : (os'.set j { x with huts := ((H ||| 2 ^ hut : Nat) : Int) }).length = os.length := by rw [List.length_set]; exact hos'
  simp only [go_sem, Nat.reduceEqDiff, Nat.reduceAdd, Bool.not_false, undef, List.set_cons_succ, List.set_cons_zero, List.length_map, hos', List.getElem?_map, hx, Option.map_some, hto, hn0, hshl, IntKind.bits, hor, hset, hlset]
  have hpush := fun (f : Fi) (m : Int) => hM.push (show j < os'.length by omega) hl4 (o := { x with huts := ((H ||| 2 ^ hut : Nat) : Int) }) (f := f) (m := m) ⟨hxo', hxs7⟩
  generalize hXX : os'.set j { x with huts := ((H ||| 2 ^ hut : Nat) : Int) } = XX at *
  generalize hxx : ({ x with huts := ((H ||| 2 ^ hut : Nat) : Int) } : Ow) = xx at *
  have e1 : xx.set_ = x.set_ := by rw [← hxx]
  have e2 : xx.lo = x.lo := by rw [← hxx]
  have e3 : xx.hi = x.hi := by rw [← hxx]
  simp only [go_sem, Nat.reduceEqDiff, Nat.reduceAdd, List.length_map, hlset, List.getElem?_map, hget, Option.map_some, htx, w1, w2]
  refine draw_at ws hw hl (p := 0) (q := 1) (n := D + 1) (a := b + 1 + 1) (by omega) (by omega) (by omega) rfl rfl (by decide) fun v2 hv2 => ?_
  simp only [go_sem, Nat.reduceEqDiff, Nat.reduceAdd, List.set_cons_zero, List.length_map, hlset, List.getElem?_map, hget, Option.map_some, htx]
  have w3 : IntKind.i64.wrap (x.lo + (v2 : Int)) = x.lo + v2 := wrap_id (by omega) (by omega)
  refine draw_at ws hw hl (p := 0) (q := 1) (n := 500) (a := b + 1 + 1 + 1) (by omega) (by omega) (by omega) rfl rfl (by decide) fun v3 hv3 => ?_
  have w4 : IntKind.i64.wrap (x.set_ + (v3 : Int)) = x.set_ + v3 := wrap_id (by omega) (by omega)
  simp only [go_sem, Nat.reduceEqDiff, Nat.reduceAdd, List.set_cons_zero, List.length_map, hlset, List.getElem?_map, hget, Option.map_some, htx, w3, w4]
  have d1 := hdl (x.set_ + v3) (x.lo + v2) (by omega) (by omega) (by omega)
  rw [hde] at d1
  rw [htx] at d1
  refine ACallL.quiet1 d1 rfl rfl rfl ?_
  have hdb := dialI_bd x (x.set_ + v3) (x.lo + v2)
  generalize hdv : dialI x (x.set_ + v3) (x.lo + v2) = dv at *
  simp only [go_sem, Nat.reduceEqDiff]
  refine draw_at ws hw hl (p := 0) (q := 1) (n := 10) (a := b + 1 + 1 + 1 + 1) (by omega) (by omega) (by omega) rfl rfl (by decide) fun v4 hv4 => ?_
  have w5 : IntKind.i64.wrap (dv - (v4 : Int)) = dv - v4 := wrap_id (by omega) (by omega)
  simp only [go_sem, Nat.reduceEqDiff, List.set_cons_zero, w5]
  refine draw_at ws hw hl (p := 0) (q := 1) (n := 10) (a := b + 1 + 1 + 1 + 1 + 1) (by omega) (by omega) (by omega) rfl rfl (by decide) fun v5 hv5 => ?_
  have w6 : IntKind.i64.wrap (dv + (v5 : Int)) = dv + v5 := wrap_id (by omega) (by omega)
  simp only [go_sem, Nat.reduceEqDiff, List.set_cons_zero, w6]
  refine draw_at ws hw hl (p := 0) (q := 1) (n := 2) (a := b + 1 + 1 + 1 + 1 + 1 + 1) (by omega) (by omega) (by omega) rfl rfl (by decide) fun v6 hv6 => ?_
  simp only [go_sem, Nat.reduceEqDiff, List.set_cons_zero]
  refine ACallL.quiet1 (find_ok hut (x.set_ + v3) (max 0 (dv - v4)) (min 719 (dv + v5)) ((v6 : Int) == 0)) rfl rfl rfl ?_
  have x1 : (fs.length + 1 ≤ maxLen) = True := eq_true (by unfold maxLen; omega)
  have x2 : ((fs.length + 1) * 40 ≤ 140737488355328) = True := eq_true (by omega)
  have x3 : ((fs.length + 1) * 16 ≤ 140737488355328) = True := eq_true (by omega)
  have hl1 : (l.map tTr).map E.t ++ [E.t (.agg [.lit (.int .i64 j), .lit (.int .i64 (x.set_ + (v3 : Int)))])] = ((l ++ [(j, x.set_ + (v3 : Int))]).map tTr).map E.t := by rw [List.map_append, List.map_append]; rfl
  have hf1 : ∀ (e : Int) (s : Bool), (fs.map tFi).map E.t ++ [E.t (.agg [vi hut, vi e, vi (max 0 (dv - (v4 : Int))), vi (min 719 (dv + (v5 : Int))), vb s])] = ((fs ++ [(⟨hut, e, max 0 (dv - (v4 : Int)), min 719 (dv + (v5 : Int)), s⟩ : Fi)]).map tFi).map E.t := fun e s => by rw [List.map_append, List.map_append]; rfl
  have hfl : ∀ F : Fi, (fs ++ [F]).length = fs.length + 1 := fun F => by simp
  have hXL : XX.length = os.length := hlset
  cases hs6 : ((v6 : Int) == 0)
  · have hf2 := hf1 (x.set_ + (v3 : Int)) false
    simp only [go_sem, Nat.reduceEqDiff, Nat.reduceAdd, Nat.reduceLT, Nat.reduceLeDiff, undef, List.set_cons_succ, List.set_cons_zero, List.length_map, hml, x1, x2, x3, hl1, hf2, hwj]
    refine ⟨hjl, _, Sub.gc [0, 1, 2, 3, 4, 5] [40, 0, 2, 3, 39] rfl rfl, XX, fs ++ [(⟨hut, x.set_ + (v3 : Int), max 0 (dv - (v4 : Int)), min 719 (dv + (v5 : Int)), false⟩ : Fi)], l ++ [(j, x.set_ + (v3 : Int))], b + 1 + 1 + 1 + 1 + 1 + 1 + 1, hXL, hpush _ _ ⟨by simp only; omega, by simp only; omega, by simp only; omega⟩ ?_, by omega, St.gc_mk ?_ ?_ rfl rfl⟩
    · refine hmem _ (x.lo + v2) (by omega) (by omega) ?_ ?_ _ rfl
      · rw [hdv]; omega
      · rw [hdv]; omega
    · rw [hfl]; rfl
    · rw [hfl]
      unfold σgc
      simp only [List.map_cons, List.map_nil, List.getD_cons_zero, List.getD_cons_succ, AO.gc, gc_row]
      rfl
  · simp only [go_sem, Nat.reduceEqDiff, Nat.reduceAdd, undef, List.set_cons_succ, List.set_cons_zero]
    refine draw_at ws hw hl (p := 0) (q := 1) (n := 200) (a := b + 1 + 1 + 1 + 1 + 1 + 1 + 1) (by omega) (by omega) (by omega) rfl rfl (by decide) fun v7 hv7 => ?_
    have w7 : IntKind.i64.wrap (x.set_ + (v3 : Int) + (v7 : Int)) = x.set_ + v3 + v7 := wrap_id (by omega) (by omega)
    have hf2 := hf1 (min 1440 (x.set_ + (v3 : Int) + (v7 : Int))) true
    simp only [go_sem, Nat.reduceEqDiff, Nat.reduceAdd, Nat.reduceLT, Nat.reduceLeDiff, undef, List.set_cons_succ, List.set_cons_zero, List.length_map, hml, x1, x2, x3, w7]
    simp only [go_sem, hl1, hf2, hwj]
    refine ⟨hjl, _, Sub.gc [0, 1, 2, 3, 4, 5] [40, 0, 2, 3, 39] rfl rfl, XX, fs ++ [(⟨hut, min 1440 (x.set_ + (v3 : Int) + (v7 : Int)), max 0 (dv - (v4 : Int)), min 719 (dv + (v5 : Int)), true⟩ : Fi)], l ++ [(j, x.set_ + (v3 : Int))], b + 1 + 1 + 1 + 1 + 1 + 1 + 1 + 1, hXL, hpush _ _ ⟨by simp only; omega, by simp only; omega, by simp only; omega⟩ ?_, by omega, St.gc_mk ?_ ?_ rfl rfl⟩
    · refine hmem _ (x.lo + v2) (by omega) (by omega) ?_ ?_ _ ?_
      · rw [hdv]; omega
      · rw [hdv]; omega
      · simp only [if_true]; omega
    · rw [hfl]; rfl
    · rw [hfl]
      unfold σgc
      simp only [List.map_cons, List.map_nil, List.getD_cons_zero, List.getD_cons_succ, AO.gc, gc_row]
      rfl
end Go.Proofs.YtnmmhkkmejbckaaDoor
