/- Proved here: laws that the statements need (SuC3t, SuS, SuT). No conditions but those that each law states. -/
import Derived.Test.YtmahocdmkpigjaaDoorFL
import Derived.Test.YtmahocdmkpigjaaDoorProg
import Derived.Test.YtmahocdmkpigjaaDoorSH

set_option linter.unusedSimpArgs false
set_option linter.unusedVariables false

/- Compiled code of functions, printed by program; each is checked to be the program's. No conditions. -/
namespace Go.Proofs.YtmahocdmkpigjaaDoor
open Go Go.Ab
/-- dipworks/dipworkslaw04.truly -/
def c34 : AC :=
 .seq (.reg [⟨(some 2), none, .box (.tmp 0)⟩,
 ⟨(some 3), none, .box (.tmp 1)⟩,
 ⟨(some 4), none, .mov (.lit (.slice none 0 0))⟩,
 ⟨(some 5), none, .mov (.lit (.slice none 0 0))⟩])
 (.seq (.reg [⟨(some 6), none, .alloc [(.int .i64 0)]⟩,
 ⟨none, none, .store 1 (.tmp 6) (.lit (.int .i64 0))⟩])
 (.seq (.reg [⟨(some 9), none, .mkfn (.func 77) [] [(.tmp 6), (.tmp 3)]⟩,
 ⟨(some 7), none, .mov (.tmp 9)⟩])
 (.seq (.seq (.reg [⟨(some 10), none, .faddr 2 (.tmp 2)⟩,
 ⟨(some 11), none, .load false 1 (.tmp 10)⟩,
 ⟨(some 12), none, .len (.tmp 11)⟩,
 ⟨(some 13), none, .mov (.lit (.int .i64 0))⟩])
 (.block 0 (.loop (.seq (.reg [⟨(some 14), none, .bin .lss (.tmp 13) (.tmp 12)⟩])
 (.seq (.cond (.tmp 14) (.skip)
 (.exit 0))
 (.seq (.block 1 (.seq (.reg [⟨(some 15), none, .mov (.tmp 13)⟩,
 ⟨(some 8), none, .mov (.tmp 15)⟩])
 (.draw (.step ⟨(some 16), none, .mov (.tmp 4)⟩ (
 .step ⟨(some 17), none, .mov (.tmp 7)⟩ (
 .step ⟨(some 18), none, .faddr 2 (.tmp 2)⟩ (
 .step ⟨(some 19), none, .load false 1 (.tmp 18)⟩ (
 .step ⟨(some 20), none, .mov (.tmp 8)⟩ (
 .step ⟨(some 21), none, .iaddr 2 (.tmp 19) (.tmp 20)⟩ (
 .step ⟨(some 22), none, .load true 2 (.tmp 21)⟩ (
 .step ⟨(some 26), none, .mov (.tmp 5)⟩ (
 .step ⟨(some 27), none, .mov (.tmp 7)⟩ (
 .step ⟨(some 28), none, .faddr 3 (.tmp 2)⟩ (
 .step ⟨(some 29), none, .load false 1 (.tmp 28)⟩ (
 .step ⟨(some 30), none, .mov (.tmp 8)⟩ (
 .step ⟨(some 31), none, .iaddr 2 (.tmp 29) (.tmp 30)⟩ (
 .step ⟨(some 32), none, .load true 2 (.tmp 31)⟩ (
 .ev ⟨(some 23), none, .call (.tmp 17) [(.tmp 22)]⟩ [⟨(some 32), none, .load true 2 (.tmp 31)⟩, ⟨(some 31), none, .iaddr 2 (.tmp 29) (.tmp 30)⟩, ⟨(some 29), none, .load false 1 (.tmp 28)⟩, ⟨(some 28), none, .faddr 3 (.tmp 2)⟩, ⟨(some 21), none, .iaddr 2 (.tmp 19) (.tmp 20)⟩, ⟨(some 19), none, .load false 1 (.tmp 18)⟩, ⟨(some 18), none, .faddr 2 (.tmp 2)⟩] (
 .ev ⟨(some 24), none, .bslice 1 (.int .i64 0) 1 [(0, (.tmp 23))]⟩ [⟨(some 32), none, .load true 2 (.tmp 31)⟩, ⟨(some 31), none, .iaddr 2 (.tmp 29) (.tmp 30)⟩, ⟨(some 29), none, .load false 1 (.tmp 28)⟩, ⟨(some 28), none, .faddr 3 (.tmp 2)⟩, ⟨(some 22), none, .load true 2 (.tmp 21)⟩, ⟨(some 21), none, .iaddr 2 (.tmp 19) (.tmp 20)⟩, ⟨(some 19), none, .load false 1 (.tmp 18)⟩, ⟨(some 18), none, .faddr 2 (.tmp 2)⟩] (
 .ev ⟨(some 25), none, .app 1 8 (.tmp 16) (.tmp 24)⟩ [⟨(some 32), none, .load true 2 (.tmp 31)⟩, ⟨(some 31), none, .iaddr 2 (.tmp 29) (.tmp 30)⟩, ⟨(some 29), none, .load false 1 (.tmp 28)⟩, ⟨(some 28), none, .faddr 3 (.tmp 2)⟩, ⟨(some 22), none, .load true 2 (.tmp 21)⟩, ⟨(some 21), none, .iaddr 2 (.tmp 19) (.tmp 20)⟩, ⟨(some 19), none, .load false 1 (.tmp 18)⟩, ⟨(some 18), none, .faddr 2 (.tmp 2)⟩] (
 .ev ⟨(some 33), none, .call (.tmp 27) [(.tmp 32)]⟩ [⟨(some 31), none, .iaddr 2 (.tmp 29) (.tmp 30)⟩, ⟨(some 29), none, .load false 1 (.tmp 28)⟩, ⟨(some 28), none, .faddr 3 (.tmp 2)⟩, ⟨(some 22), none, .load true 2 (.tmp 21)⟩, ⟨(some 21), none, .iaddr 2 (.tmp 19) (.tmp 20)⟩, ⟨(some 19), none, .load false 1 (.tmp 18)⟩, ⟨(some 18), none, .faddr 2 (.tmp 2)⟩] (
 .ev ⟨(some 34), none, .bslice 1 (.int .i64 0) 1 [(0, (.tmp 33))]⟩ [⟨(some 32), none, .load true 2 (.tmp 31)⟩, ⟨(some 31), none, .iaddr 2 (.tmp 29) (.tmp 30)⟩, ⟨(some 29), none, .load false 1 (.tmp 28)⟩, ⟨(some 28), none, .faddr 3 (.tmp 2)⟩, ⟨(some 22), none, .load true 2 (.tmp 21)⟩, ⟨(some 21), none, .iaddr 2 (.tmp 19) (.tmp 20)⟩, ⟨(some 19), none, .load false 1 (.tmp 18)⟩, ⟨(some 18), none, .faddr 2 (.tmp 2)⟩] (
 .ev ⟨(some 35), none, .app 1 8 (.tmp 26) (.tmp 34)⟩ [⟨(some 32), none, .load true 2 (.tmp 31)⟩, ⟨(some 31), none, .iaddr 2 (.tmp 29) (.tmp 30)⟩, ⟨(some 29), none, .load false 1 (.tmp 28)⟩, ⟨(some 28), none, .faddr 3 (.tmp 2)⟩, ⟨(some 22), none, .load true 2 (.tmp 21)⟩, ⟨(some 21), none, .iaddr 2 (.tmp 19) (.tmp 20)⟩, ⟨(some 19), none, .load false 1 (.tmp 18)⟩, ⟨(some 18), none, .faddr 2 (.tmp 2)⟩] (
 .step ⟨(some 4), none, .mov (.tmp 25)⟩ (
 .step ⟨(some 5), none, .mov (.tmp 35)⟩ (
 .done)))
 (.stop))
 (.stop))
 (.stop))
 (.stop))
 (.stop))
 (.stop)))))))))))))))))))
 (.reg [⟨(some 36), none, .bin .add (.tmp 13) (.lit (.int .i64 1))⟩,
 ⟨(some 13), none, .mov (.tmp 36)⟩])))))))
 (.seq (.reg [⟨(some 37), none, .mov (.tmp 4)⟩,
 ⟨(some 38), none, .mov (.tmp 5)⟩,
 ⟨(some 4), none, .mov (.tmp 37)⟩,
 ⟨(some 5), none, .mov (.tmp 38)⟩])
 (.ret)))))
theorem k34 : FnC Tryd.prog 34 39 [] [] [.tmp 4, .tmp 5] c34 2 := ⟨Tryd.f34, _, Tryd.func34, rfl, by decide, rfl, by decide, by kernel_rfl, by kernel_rfl⟩
/-- dipworks/dipworkslaw04.follow -/
def c35 : AC :=
 .seq (.reg [⟨(some 4), none, .box (.tmp 0)⟩,
 ⟨(some 5), none, .box (.tmp 1)⟩,
 ⟨(some 8), none, .mov (.lit (.slice none 0 0))⟩,
 ⟨(some 9), none, .mov (.lit (.slice none 0 0))⟩])
 (.seq (.reg [⟨(some 14), none, .faddr 2 (.tmp 5)⟩,
 ⟨(some 15), none, .load false 1 (.tmp 14)⟩,
 ⟨(some 10), none, .mov (.tmp 15)⟩])
 (.seq (.seq (.reg [⟨(some 16), none, .mov (.tmp 2)⟩,
 ⟨(some 17), none, .len (.tmp 16)⟩,
 ⟨(some 18), none, .mov (.lit (.int .i64 0))⟩])
 (.block 0 (.loop (.seq (.reg [⟨(some 19), none, .bin .lss (.tmp 18) (.tmp 17)⟩])
 (.seq (.cond (.tmp 19) (.skip)
 (.exit 0))
 (.seq (.block 1 (.seq (.reg [⟨(some 20), none, .mov (.tmp 18)⟩,
 ⟨(some 11), none, .mov (.tmp 20)⟩])
 (.seq (.reg [⟨(some 12), none, .mov (.lit (.int .i64 0))⟩])
 (.seq (.seq (.reg [⟨(some 21), none, .mov (.tmp 10)⟩,
 ⟨(some 22), none, .bin .geq (.tmp 21) (.lit (.int .i64 0))⟩])
 (.cond (.tmp 22) (.draw (.step ⟨(some 23), none, .mov (.tmp 2)⟩ (
 .step ⟨(some 24), none, .mov (.tmp 11)⟩ (
 .step ⟨(some 25), none, .iaddr 1 (.tmp 23) (.tmp 24)⟩ (
 .step ⟨(some 26), none, .load false 1 (.tmp 25)⟩ (
 .step ⟨(some 27), none, .faddr 1 (.tmp 4)⟩ (
 .step ⟨(some 28), none, .load false 1 (.tmp 27)⟩ (
 .step ⟨(some 29), none, .mov (.tmp 10)⟩ (
 .step ⟨(some 30), none, .bin .mul (.tmp 28) (.tmp 29)⟩ (
 .step ⟨(some 31), none, .bin .sub (.tmp 26) (.tmp 30)⟩ (
 .step ⟨(some 32), none, .mxmn true (.lit (.int .i64 0)) [(.tmp 31)]⟩ (
 .step ⟨(some 12), none, .mov (.tmp 32)⟩ (
 .done)))))))))))))
 (.skip)))
 (.seq (.draw (.step ⟨(some 33), none, .mov (.tmp 12)⟩ (
 .step ⟨(some 34), none, .bin .gtr (.tmp 33) (.lit (.int .i64 0))⟩ (
 .step ⟨(some 35), none, .mov (.tmp 34)⟩ (
 .step ⟨(some 36), (some (35, true)), .mov (.tmp 12)⟩ (
 .step ⟨(some 37), (some (35, true)), .mov (.tmp 3)⟩ (
 .step ⟨(some 38), (some (35, true)), .mov (.tmp 11)⟩ (
 .step ⟨(some 39), (some (35, true)), .iaddr 1 (.tmp 37) (.tmp 38)⟩ (
 .step ⟨(some 40), (some (35, true)), .load false 1 (.tmp 39)⟩ (
 .step ⟨(some 41), (some (35, true)), .bin .add (.tmp 36) (.tmp 40)⟩ (
 .step ⟨(some 42), (some (35, true)), .faddr 0 (.tmp 5)⟩ (
 .step ⟨(some 43), (some (35, true)), .load false 1 (.tmp 42)⟩ (
 .step ⟨(some 44), (some (35, true)), .bin .gtr (.tmp 41) (.tmp 43)⟩ (
 .step ⟨(some 45), none, .pick (.tmp 35) (.tmp 44) (.lit (.bool false))⟩ (
 .step ⟨(some 13), none, .mov (.tmp 45)⟩ (
 .done))))))))))))))))
 (.seq (.seq (.draw (.step ⟨(some 46), none, .mov (.tmp 13)⟩ (
 .step ⟨(some 47), none, .mov (.tmp 46)⟩ (
 .step ⟨(some 48), (some (47, true)), .mov (.tmp 3)⟩ (
 .step ⟨(some 49), (some (47, true)), .mov (.tmp 11)⟩ (
 .step ⟨(some 50), (some (47, true)), .iaddr 1 (.tmp 48) (.tmp 49)⟩ (
 .step ⟨(some 51), (some (47, true)), .load false 1 (.tmp 50)⟩ (
 .step ⟨(some 52), (some (47, true)), .faddr 1 (.tmp 5)⟩ (
 .step ⟨(some 53), (some (47, true)), .load false 1 (.tmp 52)⟩ (
 .step ⟨(some 54), (some (47, true)), .bin .gtr (.tmp 51) (.tmp 53)⟩ (
 .step ⟨(some 55), none, .pick (.tmp 47) (.tmp 54) (.lit (.bool false))⟩ (
 .done))))))))))))
 (.cond (.tmp 55) (.reg [⟨(some 56), none, .mov (.tmp 10)⟩,
 ⟨(some 57), none, .bin .sub (.tmp 56) (.lit (.int .i64 1))⟩,
 ⟨(some 10), none, .mov (.tmp 57)⟩])
 (.skip)))
 (.reg [⟨(some 58), none, .mov (.tmp 8)⟩,
 ⟨(some 59), none, .mov (.tmp 10)⟩,
 ⟨(some 60), none, .bslice 1 (.int .i64 0) 1 [(0, (.tmp 59))]⟩,
 ⟨(some 61), none, .app 1 8 (.tmp 58) (.tmp 60)⟩,
 ⟨(some 62), none, .mov (.tmp 9)⟩,
 ⟨(some 63), none, .mov (.tmp 13)⟩,
 ⟨(some 64), none, .bslice 1 (.bool false) 1 [(0, (.tmp 63))]⟩,
 ⟨(some 65), none, .app 1 1 (.tmp 62) (.tmp 64)⟩,
 ⟨(some 8), none, .mov (.tmp 61)⟩,
 ⟨(some 9), none, .mov (.tmp 65)⟩])))))))
 (.reg [⟨(some 66), none, .bin .add (.tmp 18) (.lit (.int .i64 1))⟩,
 ⟨(some 18), none, .mov (.tmp 66)⟩])))))))
 (.seq (.reg [⟨(some 67), none, .mov (.tmp 8)⟩,
 ⟨(some 68), none, .mov (.tmp 9)⟩,
 ⟨(some 8), none, .mov (.tmp 67)⟩,
 ⟨(some 9), none, .mov (.tmp 68)⟩])
 (.ret))))
theorem k35 : FnC Tryd.prog 35 69 [] [] [.tmp 8, .tmp 9] c35 4 := ⟨Tryd.f35, _, Tryd.func35, rfl, by decide, rfl, by decide, by kernel_rfl, by kernel_rfl⟩
/-- dipworks/dipworkslaw04.truly$1 -/
def c77 : AC :=
 .seq (.reg [⟨(some 3), none, .box (.tmp 0)⟩,
 ⟨(some 4), none, .mov (.lit (.int .i64 0))⟩])
 (.seq (.reg [⟨(some 5), none, .load false 1 (.tmp 1)⟩,
 ⟨(some 6), none, .bin .add (.tmp 5) (.lit (.int .i64 1))⟩,
 ⟨none, none, .store 1 (.tmp 1) (.tmp 6)⟩])
 (.seq (.seq (.reg [⟨(some 7), none, .load false 1 (.tmp 2)⟩,
 ⟨(some 8), none, .len (.tmp 7)⟩,
 ⟨(some 9), none, .bin .eql (.tmp 8) (.lit (.int .i64 0))⟩])
 (.cond (.tmp 9) (.seq (.reg [⟨(some 10), none, .faddr 0 (.tmp 3)⟩,
 ⟨(some 11), none, .load false 1 (.tmp 10)⟩,
 ⟨(some 4), none, .mov (.tmp 11)⟩])
 (.ret))
 (.skip)))
 (.seq (.draw (.step ⟨(some 12), none, .faddr 0 (.tmp 3)⟩ (
 .step ⟨(some 13), none, .load false 1 (.tmp 12)⟩ (
 .step ⟨(some 14), none, .load false 1 (.tmp 2)⟩ (
 .step ⟨(some 15), none, .load false 1 (.tmp 1)⟩ (
 .step ⟨(some 16), none, .load false 1 (.tmp 2)⟩ (
 .step ⟨(some 17), none, .len (.tmp 16)⟩ (
 .step ⟨(some 18), none, .bin .rem (.tmp 15) (.tmp 17)⟩ (
 .step ⟨(some 19), none, .iaddr 1 (.tmp 14) (.tmp 18)⟩ (
 .step ⟨(some 20), none, .load false 1 (.tmp 19)⟩ (
 .step ⟨(some 21), none, .conv .i64 (.tmp 20)⟩ (
 .step ⟨(some 22), none, .load false 1 (.tmp 1)⟩ (
 .step ⟨(some 23), none, .bin .mul (.lit (.int .i64 23)) (.tmp 22)⟩ (
 .step ⟨(some 24), none, .bin .add (.tmp 21) (.tmp 23)⟩ (
 .step ⟨(some 25), none, .faddr 1 (.tmp 3)⟩ (
 .step ⟨(some 26), none, .load false 1 (.tmp 25)⟩ (
 .step ⟨(some 27), none, .faddr 0 (.tmp 3)⟩ (
 .step ⟨(some 28), none, .load false 1 (.tmp 27)⟩ (
 .step ⟨(some 29), none, .bin .sub (.tmp 26) (.tmp 28)⟩ (
 .step ⟨(some 30), none, .bin .add (.tmp 29) (.lit (.int .i64 1))⟩ (
 .step ⟨(some 31), none, .bin .rem (.tmp 24) (.tmp 30)⟩ (
 .step ⟨(some 32), none, .bin .add (.tmp 13) (.tmp 31)⟩ (
 .step ⟨(some 4), none, .mov (.tmp 32)⟩ (
 .done))))))))))))))))))))))))
 (.ret))))
theorem k77 : FnC Tryd.prog 77 33 [] [] [.tmp 4] c77 3 := ⟨Tryd.f77, _, Tryd.func77, rfl, by decide, rfl, by decide, by kernel_rfl, by kernel_rfl⟩
end Go.Proofs.YtmahocdmkpigjaaDoor

/- What water and waves truly are; a hut is followed. -/
namespace Go.Proofs.YtmahocdmkpigjaaDoor
open Go Go.Ab

abbrev tBy (ws : List Nat) : T := .slice 1 (ws.map fun w : Nat => .lit (.int .u16 w))
/-- The k-th number that is drawn, within a span. -/
def drawN (ws : List Nat) (k : Nat) : Nat := if ws.length = 0 then 0 else ws.getD (k % ws.length) 0 + 23 * k
def drawI (ws : List Nat) (k : Nat) (x : Sp) : Int := x.1 + ((drawN ws k : Nat) : Int).tmod (x.2 - x.1 + 1)
theorem drawI_in (ws : List Nat) (k : Nat) {x : Sp} {high : Int} (hx : Near x high) : x.1 ≤ drawI ws k x ∧ drawI ws k x ≤ x.2 := by
  unfold drawI
  unfold Near at hx
  have : 0 ≤ ((drawN ws k : Nat) : Int).tmod (x.2 - x.1 + 1) ∧ ((drawN ws k : Nat) : Int).tmod (x.2 - x.1 + 1) < x.2 - x.1 + 1 := by
    rw [Int.tmod_eq_emod_of_nonneg (by omega)]
    exact ⟨Int.emod_nonneg _ (by omega), Int.emod_lt_of_pos _ (by omega)⟩
  omega
set_option maxRecDepth 8000 in
set_option maxHeartbeats 4000000 in
theorem draw_ok (ws : List Nat) (hw : ∀ w ∈ ws, w < 65536) (hl : ws.length < 9223372036854775808) (k : Nat) (hk : k < 100) (x : Sp) {high : Int} (hx : Near x high) (hh : high ≤ 100) :
    ACall Tryd.prog 77 [.t (tSp x), .ptr 0 0, .t (.ptr (.agg [tBy ws]) 0)] [.cells [.t (vi k)]] (fun o σ' => ∃ a', (o = .ret (.t (vi (drawI ws (k + 1) x))) ∧ a' = AO.cells [.t (vi (k + 1 : Nat))]) ∧ σ' = [a']) := by
  refine ACall.walk k77 ?_
  unfold c77 tSp
  have hdr : drawI ws (k + 1) x = x.1 + ((drawN ws (k + 1) : Nat) : Int).tmod (x.2 - x.1 + 1) := rfl
  have hin := drawI_in ws (k + 1) hx
  generalize drawI ws (k + 1) x = dv at *
  obtain ⟨lo, hi⟩ := x
  have hx' : 0 ≤ lo ∧ lo ≤ hi ∧ hi ≤ high ∧ hi - lo ≤ 3 := hx
  simp only at hdr hin
  have wk : IntKind.i64.wrap ((k : Int) + 1) = ((k + 1 : Nat) : Int) := by rw [wrap_id (by omega) (by omega)]; omega
  simp only [go_sem, Nat.reduceEqDiff, Nat.reduceAdd, Nat.reduceSub, Nat.reduceMul, Nat.reduceLT, Nat.reduceLeDiff, Nat.reduceMod, Nat.reduceDiv, Int.reduceToNat, Int.reduceLT, Int.reduceLE, Bool.not_true, Bool.not_false, reduceIte, Int.reduceEq, Int.reduceBEq, Int.reduceBNe, Int.reduceGT, Int.reduceGE, Int.reduceNeg, Int.reduceAdd, Int.reduceSub, Nat.reduceBEq, decide_true, decide_false, undef, beq_self_eq_true, bne_self_eq_false, Bool.and_true, Bool.true_and, Bool.and_false, Bool.false_and, Bool.or_true, Bool.true_or, Bool.or_false, Bool.false_or, undef, wk, List.length_map]
  cases h0 : ((ws.length : Int) == 0)
  · have n0 : ¬ ((ws.length : Int) = 0) := by simpa using h0
    have n0' : ¬ ws.length = 0 := by omega
    have hm : (k + 1) % ws.length < ws.length := Nat.mod_lt _ (by omega)
    have t1 := mod_nat (k + 1) ws.length
    have hgm : ws[(k + 1) % ws.length]? = some ws[(k + 1) % ws.length] := List.getElem?_eq_getElem hm
    have hwm := hw _ (List.getElem_mem hm)
    have hnn : drawN ws (k + 1) = ws[(k + 1) % ws.length] + 23 * (k + 1) := by
      unfold drawN
      rw [if_neg n0', List.getD_eq_getElem?_getD, hgm]; rfl
    rw [hnn] at hdr
    generalize ws[(k + 1) % ws.length] = w at *
    generalize (k + 1) % ws.length = m at *
    have a1 : IntKind.i64.wrap (w : Int) = w := wrap_id (by omega) (by omega)
    have a2 : IntKind.i64.wrap (23 * ((k + 1 : Nat) : Int)) = 23 * ((k + 1 : Nat) : Int) := wrap_id (by omega) (by omega)
    have a3 : IntKind.i64.wrap ((w : Int) + 23 * ((k + 1 : Nat) : Int)) = ((w + 23 * (k + 1) : Nat) : Int) := by rw [wrap_id (by omega) (by omega)]; omega
    have a4 : IntKind.i64.wrap (hi - lo) = hi - lo := wrap_id (by omega) (by omega)
    have a5 : IntKind.i64.wrap (hi - lo + 1) = hi - lo + 1 := wrap_id (by omega) (by omega)
    have a6 : ¬ (hi - lo + 1 = 0) := by omega
    have a7 : IntKind.i64.wrap (lo + ((w + 23 * (k + 1) : Nat) : Int).tmod (hi - lo + 1)) = dv := by rw [← hdr]; exact wrap_id (by omega) (by omega)
    simp only [go_sem, Nat.reduceEqDiff, Nat.reduceAdd, Nat.reduceSub, Nat.reduceMul, Nat.reduceLT, Nat.reduceLeDiff, Nat.reduceMod, Nat.reduceDiv, Int.reduceToNat, Int.reduceLT, Int.reduceLE, Bool.not_true, Bool.not_false, reduceIte, Int.reduceEq, Int.reduceBEq, Int.reduceBNe, Int.reduceGT, Int.reduceGE, Int.reduceNeg, Int.reduceAdd, Int.reduceSub, Nat.reduceBEq, decide_true, decide_false, undef, beq_self_eq_true, bne_self_eq_false, Bool.and_true, Bool.true_and, Bool.and_false, Bool.false_and, Bool.or_true, Bool.true_or, Bool.or_false, Bool.false_or, undef, h0, List.length_map, n0, t1, List.getElem?_map, hgm, Option.map_some, a1, a2, a3, a4, a5, a6, a7]
    exact finL_ret [0] ⟨rfl, rfl, rfl, rfl, _, rfl, _, ⟨rfl, rfl⟩, rfl⟩
  · have n0' : ws.length = 0 := by have := eq_of_beq h0; omega
    have hnn : drawN ws (k + 1) = 0 := by unfold drawN; rw [if_pos n0']
    rw [hnn] at hdr
    have : dv = lo := by rw [hdr]; simp
    subst this
    simp only [go_sem, Nat.reduceEqDiff, Nat.reduceAdd, Nat.reduceSub, Nat.reduceMul, Nat.reduceLT, Nat.reduceLeDiff, Nat.reduceMod, Nat.reduceDiv, Int.reduceToNat, Int.reduceLT, Int.reduceLE, Bool.not_true, Bool.not_false, reduceIte, Int.reduceEq, Int.reduceBEq, Int.reduceBNe, Int.reduceGT, Int.reduceGE, Int.reduceNeg, Int.reduceAdd, Int.reduceSub, Nat.reduceBEq, decide_true, decide_false, undef, beq_self_eq_true, bne_self_eq_false, Bool.and_true, Bool.true_and, Bool.and_false, Bool.false_and, Bool.or_true, Bool.true_or, Bool.or_false, Bool.false_or, undef, h0]
    exact finL_ret [0] ⟨rfl, rfl, rfl, rfl, _, rfl, _, ⟨rfl, rfl⟩, rfl⟩

def watT (s : Su) (ws : List Nat) (j : Nat) : List Int := (List.range j).map fun i => drawI ws (2 * i + 1) (s.water.getD i (0, 0))
def wavT (s : Su) (ws : List Nat) (j : Nat) : List Int := (List.range j).map fun i => drawI ws (2 * i + 1 + 1) (s.waves.getD i (0, 0))
theorem watT_succ (s : Su) (ws : List Nat) (j : Nat) : watT s ws (j + 1) = watT s ws j ++ [drawI ws (2 * j + 1) (s.water.getD j (0, 0))] := by unfold watT; rw [List.range_succ, List.map_append]; rfl
theorem wavT_succ (s : Su) (ws : List Nat) (j : Nat) : wavT s ws (j + 1) = wavT s ws j ++ [drawI ws (2 * j + 1 + 1) (s.waves.getD j (0, 0))] := by unfold wavT; rw [List.range_succ, List.map_append]; rfl
theorem watT_len (s : Su) (ws : List Nat) (j : Nat) : (watT s ws j).length = j := by simp [watT]
theorem wavT_len (s : Su) (ws : List Nat) (j : Nat) : (wavT s ws j).length = j := by simp [wavT]

set_option maxRecDepth 8000 in
set_option maxHeartbeats 8000000 in
theorem truly_ok (s : Su) (hs : s.OK) (ws : List Nat) (hw : ∀ w ∈ ws, w < 65536) (hl : ws.length < 9223372036854775808) : ACall Tryd.prog 34 [.t (.agg (su5 s)), .t (tBy ws)] [] (res (.ret (.tup [.t (tI (watT s ws s.water.length)), .t (tI (wavT s ws s.water.length))]))) := by
  refine ACall.walk k34 ?_
  unfold c34 su5
  have hnw := hs.nw
  have hnv := hs.nv
  simp only [go_sem, Nat.reduceEqDiff, Nat.reduceAdd, Nat.reduceSub, Nat.reduceMul, Nat.reduceLT, Nat.reduceLeDiff, Nat.reduceMod, Nat.reduceDiv, Int.reduceToNat, Int.reduceLT, Int.reduceLE, Bool.not_true, Bool.not_false, reduceIte, Int.reduceEq, Int.reduceBEq, Int.reduceBNe, Int.reduceGT, Int.reduceGE, Int.reduceNeg, Int.reduceAdd, Int.reduceSub, Nat.reduceBEq, decide_true, decide_false, undef, beq_self_eq_true, bne_self_eq_false, Bool.and_true, Bool.true_and, Bool.and_false, Bool.false_and, Bool.or_true, Bool.true_or, Bool.or_false, Bool.false_or, List.length_map]
  refine awpL_for (i := 13) (L := 12) s.water.length (fun j st => st = { env := [(13, .t (vi j)), (12, .t (vi s.water.length)), (2, .t (.ptr (.agg (su5 s)) 0)), (4, .loc 1 (watT s ws j).length), (5, .loc 2 (wavT s ws j).length), (7, .fn (.func 77) [] [.ptr 0 0, .t (.ptr (.agg [tBy ws]) 0)])], σ := [.cells [.t (vi (2 * j : Nat))], .row 1 (((watT s ws j).map fun z : Int => vi z).map .t), .row 1 (((wavT s ws j).map fun z : Int => vi z).map .t)] }) ?_
    ⟨_, (Sub.ghost 4 1 (by decide) rfl).trans ((Sub.ghost 5 1 (by decide) rfl).trans (Sub.gc [2, 3, 4] [13, 12, 2, 4, 5, 7] rfl rfl)), rfl⟩ ?_ ?_
  · rintro k st rfl; exact ⟨rfl, rfl⟩
  · rintro j st hj rfl
    have hwj : IntKind.i64.wrap ((j : Int) + 1) = ((j + 1 : Nat) : Int) := by rw [wrap_id (by omega) (by omega)]; omega
    have hx : s.water[j]? = some (s.water.getD j (0, 0)) := by rw [List.getD_eq_getElem?_getD, List.getElem?_eq_getElem hj]; rfl
    have hy : s.waves[j]? = some (s.waves.getD j (0, 0)) := by rw [List.getD_eq_getElem?_getD, List.getElem?_eq_getElem (by omega)]; rfl
    have bx := hs.water _ (List.mem_of_getElem? hx)
    have by_ := hs.waves _ (List.mem_of_getElem? hy)
    have d1 := draw_ok ws hw hl (2 * j) (by omega) _ bx (by decide)
    have d2 := draw_ok ws hw hl (2 * j + 1) (by omega) _ by_ (by decide)
    have s1 := watT_succ s ws j
    have s2 := wavT_succ s ws j
    have l1 := watT_len s ws j
    have l2 := wavT_len s ws j
    generalize watT s ws j = A at *
    generalize wavT s ws j = B at *
    generalize drawI ws (2 * j + 1) (s.water.getD j (0, 0)) = v1 at *
    generalize drawI ws (2 * j + 1 + 1) (s.waves.getD j (0, 0)) = v2 at *
    generalize s.water.getD j (0, 0) = x at *
    generalize s.waves.getD j (0, 0) = y at *
    obtain ⟨xl, xh⟩ := x
    obtain ⟨yl, yh⟩ := y
    simp only [tSp] at d1 d2
    simp only [su5, go_sem, Nat.reduceEqDiff, Nat.reduceAdd, Nat.reduceSub, Nat.reduceMul, Nat.reduceLT, Nat.reduceLeDiff, Nat.reduceMod, Nat.reduceDiv, Int.reduceToNat, Int.reduceLT, Int.reduceLE, Bool.not_true, Bool.not_false, reduceIte, Int.reduceEq, Int.reduceBEq, Int.reduceBNe, Int.reduceGT, Int.reduceGE, Int.reduceNeg, Int.reduceAdd, Int.reduceSub, Nat.reduceBEq, decide_true, decide_false, undef, beq_self_eq_true, bne_self_eq_false, Bool.and_true, Bool.true_and, Bool.and_false, Bool.false_and, Bool.or_true, Bool.true_or, Bool.or_false, Bool.false_or, undef, List.length_map, List.getElem?_map, hx, hy, Option.map_some, tSp]
    refine lend1 (m := 0) d1 rfl rfl rfl ?_
    rintro o a ⟨rfl, rfl⟩
    simp only [su5, go_sem, Nat.reduceEqDiff, Nat.reduceAdd, Nat.reduceSub, Nat.reduceMul, Nat.reduceLT, Nat.reduceLeDiff, Nat.reduceMod, Nat.reduceDiv, Int.reduceToNat, Int.reduceLT, Int.reduceLE, Bool.not_true, Bool.not_false, reduceIte, Int.reduceEq, Int.reduceBEq, Int.reduceBNe, Int.reduceGT, Int.reduceGE, Int.reduceNeg, Int.reduceAdd, Int.reduceSub, Nat.reduceBEq, decide_true, decide_false, undef, beq_self_eq_true, bne_self_eq_false, Bool.and_true, Bool.true_and, Bool.and_false, Bool.false_and, Bool.or_true, Bool.true_or, Bool.or_false, Bool.false_or, undef, Out.ren, E.ren, E.rens, AO.ren, List.length_map, List.getElem?_map, hx, hy, Option.map_some, tSp, l1]
    refine ⟨⟨by unfold maxLen; omega, by omega⟩, ?_⟩
    refine lend1 (m := 0) d2 rfl rfl rfl ?_
    rintro o a ⟨rfl, rfl⟩
    simp only [su5, go_sem, Nat.reduceEqDiff, Nat.reduceAdd, Nat.reduceSub, Nat.reduceMul, Nat.reduceLT, Nat.reduceLeDiff, Nat.reduceMod, Nat.reduceDiv, Int.reduceToNat, Int.reduceLT, Int.reduceLE, Bool.not_true, Bool.not_false, reduceIte, Int.reduceEq, Int.reduceBEq, Int.reduceBNe, Int.reduceGT, Int.reduceGE, Int.reduceNeg, Int.reduceAdd, Int.reduceSub, Nat.reduceBEq, decide_true, decide_false, undef, beq_self_eq_true, bne_self_eq_false, Bool.and_true, Bool.true_and, Bool.and_false, Bool.false_and, Bool.or_true, Bool.true_or, Bool.or_false, Bool.false_or, undef, Out.ren, E.ren, E.rens, AO.ren, List.length_map, List.getElem?_map, hx, hy, Option.map_some, tSp, l2, hwj]
    refine ⟨⟨by unfold maxLen; omega, by omega⟩, _, Sub.gc [0, 1, 2] [13, 12, 2, 4, 5, 7] rfl rfl, ?_⟩
    rw [s1, s2, List.length_append, List.length_append, List.length_singleton, List.map_append, List.map_append, List.map_append, List.map_append, l1, l2, show 2 * (j + 1) = 2 * j + 1 + 1 by omega]
    exact St.gc_mk rfl (by
      show [AO.cells _, AO.row 1 ((List.map E.t _ ++ List.map E.t [_]).map (E.gc _ _ _)), AO.row 1 ((List.map E.t _ ++ List.map E.t [_]).map (E.gc _ _ _))] = _
      rw [List.map_append, List.map_append, gc_row, gc_row, gc_row, gc_row]
      rfl) rfl rfl
  · rintro st rfl
    simp only [go_sem, Nat.reduceEqDiff, Nat.reduceAdd, Nat.reduceSub, Nat.reduceMul, Nat.reduceLT, Nat.reduceLeDiff, Nat.reduceMod, Nat.reduceDiv, Int.reduceToNat, Int.reduceLT, Int.reduceLE, Bool.not_true, Bool.not_false, reduceIte, Int.reduceEq, Int.reduceBEq, Int.reduceBNe, Int.reduceGT, Int.reduceGE, Int.reduceNeg, Int.reduceAdd, Int.reduceSub, Nat.reduceBEq, decide_true, decide_false, undef, beq_self_eq_true, bne_self_eq_false, Bool.and_true, Bool.true_and, Bool.and_false, Bool.false_and, Bool.or_true, Bool.true_or, Bool.or_false, Bool.false_or, undef]
    refine finL_ret [] ⟨rfl, rfl, rfl, rfl, _, rfl, ⟨?_, rfl⟩⟩
    show Out.ret (.tup [E.gc [] _ 11 (.loc 1 _), E.gc [] _ 11 (.loc 2 _)]) = _
    rw [gc_loc (n := 9) (id := 1) (xs := (watT s ws s.water.length).map fun z : Int => vi z) rfl rfl (by simp), gc_loc (n := 9) (id := 2) (xs := (wavT s ws s.water.length).map fun z : Int => vi z) rfl rfl (by simp)]
end Go.Proofs.YtmahocdmkpigjaaDoor

/- A hut is followed by the words of the chapter. -/
namespace Go.Proofs.YtmahocdmkpigjaaDoor
open Go Go.Ab

def rowsL (s : Su) (h : Hu) (os : List Hour) (j : Nat) : List Int := (List.range j).map fun i => (runP s h (os.take (i + 1)) : Int) - 1
def floL (s : Su) (h : Hu) (os : List Hour) (j : Nat) : List Bool := (List.range j).map fun i => Flo s h (os.take i) (os.getD i (0, 0))
theorem rowsL_succ (s : Su) (h : Hu) (os : List Hour) (j : Nat) : rowsL s h os (j + 1) = rowsL s h os j ++ [(runP s h (os.take (j + 1)) : Int) - 1] := by unfold rowsL; rw [List.range_succ, List.map_append]; rfl
theorem floL_succ (s : Su) (h : Hu) (os : List Hour) (j : Nat) : floL s h os (j + 1) = floL s h os j ++ [Flo s h (os.take j) (os.getD j (0, 0))] := by unfold floL; rw [List.range_succ, List.map_append]; rfl
theorem rowsL_len (s : Su) (h : Hu) (os : List Hour) (j : Nat) : (rowsL s h os j).length = j := by simp [rowsL]
theorem floL_len (s : Su) (h : Hu) (os : List Hour) (j : Nat) : (floL s h os j).length = j := by simp [floL]
abbrev tB (l : List Bool) : T := .slice 1 (l.map fun b : Bool => vb b)

set_option maxRecDepth 8000 in
set_option maxHeartbeats 8000000 in
theorem followL_ok (s : Su) (hs : s.OK) (h : Hu) (hh : h.OK s.rows) (os : List Hour) (hl : os.length ≤ 8) (hb : ∀ o ∈ os, 0 ≤ o.1 ∧ o.1 ≤ 30 ∧ 0 ≤ o.2 ∧ o.2 ≤ 10) :
    ACall Tryd.prog 35 [.t (.agg (su5 s)), .t (tHu h), .t (tI (os.map (·.1))), .t (tI (os.map (·.2)))] [] (res (.ret (.tup [.t (tI (rowsL s h os os.length)), .t (tB (floL s h os os.length))]))) := by
  refine ACall.walk k35 ?_
  unfold c35 tHu su5
  have hst := hs.step
  have hrow := hs.rows
  have h0 : (runP s h (os.take 0) : Int) - 1 = h.row := by
    have : runP s h [] = h.row.toNat + 1 := rfl
    rw [List.take_zero, this]
    have := hh.2.2.2.2.1
    omega
  have hle := fun j => runP_le s h (os.take j)
  have hr6 : h.row.toNat + 1 ≤ 6 := by have := hh.2.2.2.2.2; omega
  have hfb := hh.1
  have hfb2 := hh.2.1
  obtain ⟨f, b, r⟩ := h
  simp only at h0 hr6 hfb hfb2
  simp only [go_sem, Nat.reduceEqDiff, Nat.reduceAdd, Nat.reduceSub, Nat.reduceMul, Nat.reduceLT, Nat.reduceLeDiff, Nat.reduceMod, Nat.reduceDiv, Int.reduceToNat, Int.reduceLT, Int.reduceLE, Bool.not_true, Bool.not_false, reduceIte, Int.reduceEq, Int.reduceBEq, Int.reduceBNe, Int.reduceGT, Int.reduceGE, Int.reduceNeg, Int.reduceAdd, Int.reduceSub, Nat.reduceBEq, decide_true, decide_false, undef, beq_self_eq_true, bne_self_eq_false, Bool.and_true, Bool.true_and, Bool.and_false, Bool.false_and, Bool.or_true, Bool.true_or, Bool.or_false, Bool.false_or, List.length_map]
  refine awpL_for (i := 18) (L := 17) os.length (fun j st => st = { env := [(18, .t (vi j)), (17, .t (vi os.length)), (2, .t (tI (os.map (·.1)))), (3, .t (tI (os.map (·.2)))), (4, .t (.ptr (.agg (su5 s)) 0)), (5, .t (.ptr (tHu ⟨f, b, r⟩) 0)), (8, .loc 0 (rowsL s ⟨f, b, r⟩ os j).length), (9, .loc 1 (floL s ⟨f, b, r⟩ os j).length), (10, .t (vi ((runP s ⟨f, b, r⟩ (os.take j) : Int) - 1)))], σ := [.row 1 (((rowsL s ⟨f, b, r⟩ os j).map fun z : Int => vi z).map .t), .row 1 (((floL s ⟨f, b, r⟩ os j).map fun z : Bool => vb z).map .t)] }) ?_
    ⟨_, (Sub.ghost 8 1 (by decide) rfl).trans ((Sub.ghost 9 1 (by decide) rfl).trans (Sub.gc [2, 3] [18, 17, 2, 3, 4, 5, 8, 9, 10] rfl rfl)), by rw [h0]; rfl⟩ ?_ ?_
  · rintro k st rfl; exact ⟨rfl, rfl⟩
  · rintro j st hj rfl
    have hwj : IntKind.i64.wrap ((j : Int) + 1) = ((j + 1 : Nat) : Int) := by rw [wrap_id (by omega) (by omega)]; omega
    have ho : os[j]? = some os[j] := List.getElem?_eq_getElem hj
    have hob := hb _ (List.getElem_mem hj)
    have hod : os.getD j (0, 0) = os[j] := by rw [List.getD_eq_getElem?_getD, ho]; rfl
    have htk : os.take (j + 1) = os.take j ++ [os[j]] := by rw [List.take_add_one, ho]; rfl
    have s1 := rowsL_succ s ⟨f, b, r⟩ os j
    have s2 := floL_succ s ⟨f, b, r⟩ os j
    have l1 := rowsL_len s ⟨f, b, r⟩ os j
    have l2 := floL_len s ⟨f, b, r⟩ os j
    have hn : runP s ⟨f, b, r⟩ (os.take (j + 1)) = nextK s.step ⟨f, b, r⟩ (runP s ⟨f, b, r⟩ (os.take j)) os[j] := by rw [htk, runP_snoc]
    have hF : Flo s ⟨f, b, r⟩ (os.take j) (os.getD j (0, 0)) = liftK s.step f os[j].1 os[j].2 (runP s ⟨f, b, r⟩ (os.take j)) := by rw [hod]; rfl
    have hle := hle j
    rw [hF] at s2
    rw [hn] at s1
    generalize rowsL s ⟨f, b, r⟩ os j = A at *
    generalize floL s ⟨f, b, r⟩ os j = B at *
    generalize runP s ⟨f, b, r⟩ (os.take j) = k at *
    generalize os[j] = o at *
    obtain ⟨w, v⟩ := o
    simp only at hob hle s1 s2 hn
    have hN : nextK s.step ⟨f, b, r⟩ k (w, v) = if liftK s.step f w v k && decide (v > b) then k - 1 else k := rfl
    have hLf : liftK s.step f w v k = (!(k == 0) && (decide (deepI s.step w (k - 1) > 0) && decide (deepI s.step w (k - 1) + v > f))) := rfl
    have fin : ∀ (x : Int) (c : Bool) (env : List (Nat × E)) (D : List AO), x = (nextK s.step ⟨f, b, r⟩ k (w, v) : Int) - 1 → c = liftK s.step f w v k → lk env 18 = .t (vi (j + 1 : Nat)) → lk env 17 = .t (vi os.length) → lk env 2 = .t (tI (os.map (·.1))) → lk env 3 = .t (tI (os.map (·.2))) → lk env 4 = .t (.ptr (.agg (su5 s)) 0) → lk env 5 = .t (.ptr (tHu ⟨f, b, r⟩) 0) → lk env 8 = .loc 0 (A.length + 1) → lk env 9 = .loc 1 (B.length + 1) → lk env 10 = .t (vi x) →
        St.gc [0, 1] [18, 17, 2, 3, 4, 5, 8, 9, 10] { env := env, σ := .row 1 ((A.map fun z : Int => vi z).map E.t ++ [E.t (vi x)]) :: .row 1 ((B.map fun z : Bool => vb z).map E.t ++ [E.t (vb c)]) :: D } = { env := [(18, .t (vi (j + 1 : Nat))), (17, .t (vi os.length)), (2, .t (tI (os.map (·.1)))), (3, .t (tI (os.map (·.2)))), (4, .t (.ptr (.agg (su5 s)) 0)), (5, .t (.ptr (tHu ⟨f, b, r⟩) 0)), (8, .loc 0 (rowsL s ⟨f, b, r⟩ os (j + 1)).length), (9, .loc 1 (floL s ⟨f, b, r⟩ os (j + 1)).length), (10, .t (vi ((runP s ⟨f, b, r⟩ (os.take (j + 1)) : Int) - 1)))], σ := [.row 1 (((rowsL s ⟨f, b, r⟩ os (j + 1)).map fun z : Int => vi z).map .t), .row 1 (((floL s ⟨f, b, r⟩ os (j + 1)).map fun z : Bool => vb z).map .t)] } := by
      intro x c env D hx hc e1 e2 e3 e4 e5 e6 e7 e8 e9
      rw [s1, s2, hn, ← hx, ← hc, List.length_append, List.length_append, List.length_singleton, List.length_singleton]
      refine St.gc_mk (by simp only [List.map_cons, List.map_nil, e1, e2, e3, e4, e5, e6, e7, e8, e9]; rfl) ?_ rfl rfl
      show [AO.row 1 ((List.map E.t _ ++ List.map E.t [_]).map (E.gc _ _ _)), AO.row 1 ((List.map E.t _ ++ List.map E.t [_]).map (E.gc _ _ _))] = _
      rw [List.map_append, List.map_append, gc_row, gc_row, gc_row, gc_row, List.map_append, List.map_append, List.map_append, List.map_append]
      rfl
    simp only [su5, go_sem, Nat.reduceEqDiff, Nat.reduceAdd, Nat.reduceSub, Nat.reduceMul, Nat.reduceLT, Nat.reduceLeDiff, Nat.reduceMod, Nat.reduceDiv, Int.reduceToNat, Int.reduceLT, Int.reduceLE, Bool.not_true, Bool.not_false, reduceIte, Int.reduceEq, Int.reduceBEq, Int.reduceBNe, Int.reduceGT, Int.reduceGE, Int.reduceNeg, Int.reduceAdd, Int.reduceSub, Nat.reduceBEq, decide_true, decide_false, undef, beq_self_eq_true, bne_self_eq_false, Bool.and_true, Bool.true_and, Bool.and_false, Bool.false_and, Bool.or_true, Bool.true_or, Bool.or_false, Bool.false_or, undef, List.length_map, List.getElem?_map, ho, Option.map_some, tHu]
    cases hk0 : decide ((k : Int) - 1 ≥ 0)
    · have hkz : k = 0 := by have := of_decide_eq_false hk0; omega
      subst hkz
      simp only [su5, go_sem, Nat.reduceEqDiff, Nat.reduceAdd, Nat.reduceSub, Nat.reduceMul, Nat.reduceLT, Nat.reduceLeDiff, Nat.reduceMod, Nat.reduceDiv, Int.reduceToNat, Int.reduceLT, Int.reduceLE, Bool.not_true, Bool.not_false, reduceIte, Int.reduceEq, Int.reduceBEq, Int.reduceBNe, Int.reduceGT, Int.reduceGE, Int.reduceNeg, Int.reduceAdd, Int.reduceSub, Nat.reduceBEq, decide_true, decide_false, undef, beq_self_eq_true, bne_self_eq_false, Bool.and_true, Bool.true_and, Bool.and_false, Bool.false_and, Bool.or_true, Bool.true_or, Bool.or_false, Bool.false_or, undef, hk0, List.length_map, List.getElem?_map, ho, Option.map_some, tHu, l1, l2, hwj]
      refine ⟨⟨by unfold maxLen; omega, by omega⟩, ⟨by unfold maxLen; omega, by omega⟩, _, Sub.gc [0, 1] [18, 17, 2, 3, 4, 5, 8, 9, 10] rfl rfl, ?_⟩
      exact fin _ _ _ _ rfl rfl rfl rfl rfl rfl rfl rfl (by rw [l1]; rfl) (by rw [l2]; rfl) rfl
    have hk1 : 1 ≤ k := by have := of_decide_eq_true hk0; omega
    have hkb : (k == 0) = false := by rw [beq_eq_false_iff_ne]; omega
    rw [hkb, Bool.not_false, Bool.true_and] at hLf
    have hm := mul_bnd hst (b := (k : Int) - 1) (by omega)
    have w1 : IntKind.i64.wrap (s.step * ((k : Int) - 1)) = s.step * ((k : Int) - 1) := wrap_id (by omega) (by omega)
    have w2 : IntKind.i64.wrap (w - s.step * ((k : Int) - 1)) = w - s.step * ((k : Int) - 1) := wrap_id (by omega) (by omega)
    have hd : max 0 (w - s.step * ((k : Int) - 1)) = deepI s.step w (k - 1) := rfl
    have hdb : 0 ≤ deepI s.step w ((k : Int) - 1) ∧ deepI s.step w ((k : Int) - 1) ≤ 100 := by unfold deepI; omega
    have w4 : IntKind.i64.wrap ((k : Int) - 1 - 1) = ((k - 1 : Nat) : Int) - 1 := by rw [wrap_id (by omega) (by omega)]; omega
    simp only [su5, go_sem, Nat.reduceEqDiff, Nat.reduceAdd, Nat.reduceSub, Nat.reduceMul, Nat.reduceLT, Nat.reduceLeDiff, Nat.reduceMod, Nat.reduceDiv, Int.reduceToNat, Int.reduceLT, Int.reduceLE, Bool.not_true, Bool.not_false, reduceIte, Int.reduceEq, Int.reduceBEq, Int.reduceBNe, Int.reduceGT, Int.reduceGE, Int.reduceNeg, Int.reduceAdd, Int.reduceSub, Nat.reduceBEq, decide_true, decide_false, undef, beq_self_eq_true, bne_self_eq_false, Bool.and_true, Bool.true_and, Bool.and_false, Bool.false_and, Bool.or_true, Bool.true_or, Bool.or_false, Bool.false_or, undef, hk0, List.length_map, List.getElem?_map, ho, Option.map_some, tHu, w1, w2, hd]
    generalize deepI s.step w ((k : Int) - 1) = d at *
    have w3 : IntKind.i64.wrap (d + v) = d + v := wrap_id (by omega) (by omega)
    cases hd0 : decide (d > 0)
    · rw [hd0, Bool.false_and] at hLf
      rw [hLf, Bool.false_and, if_neg (by simp)] at hN
      simp only [su5, go_sem, Nat.reduceEqDiff, Nat.reduceAdd, Nat.reduceSub, Nat.reduceMul, Nat.reduceLT, Nat.reduceLeDiff, Nat.reduceMod, Nat.reduceDiv, Int.reduceToNat, Int.reduceLT, Int.reduceLE, Bool.not_true, Bool.not_false, reduceIte, Int.reduceEq, Int.reduceBEq, Int.reduceBNe, Int.reduceGT, Int.reduceGE, Int.reduceNeg, Int.reduceAdd, Int.reduceSub, Nat.reduceBEq, decide_true, decide_false, undef, beq_self_eq_true, bne_self_eq_false, Bool.and_true, Bool.true_and, Bool.and_false, Bool.false_and, Bool.or_true, Bool.true_or, Bool.or_false, Bool.false_or, undef, hd0, List.length_map, List.getElem?_map, ho, Option.map_some, tHu, l1, l2, hwj]
      refine ⟨⟨by unfold maxLen; omega, by omega⟩, ⟨by unfold maxLen; omega, by omega⟩, _, Sub.gc [0, 1] [18, 17, 2, 3, 4, 5, 8, 9, 10] rfl rfl, ?_⟩
      exact fin _ _ _ _ (by rw [hN]) hLf.symm rfl rfl rfl rfl rfl rfl (by rw [l1]; rfl) (by rw [l2]; rfl) rfl
    rw [hd0, Bool.true_and] at hLf
    simp only [su5, go_sem, Nat.reduceEqDiff, Nat.reduceAdd, Nat.reduceSub, Nat.reduceMul, Nat.reduceLT, Nat.reduceLeDiff, Nat.reduceMod, Nat.reduceDiv, Int.reduceToNat, Int.reduceLT, Int.reduceLE, Bool.not_true, Bool.not_false, reduceIte, Int.reduceEq, Int.reduceBEq, Int.reduceBNe, Int.reduceGT, Int.reduceGE, Int.reduceNeg, Int.reduceAdd, Int.reduceSub, Nat.reduceBEq, decide_true, decide_false, undef, beq_self_eq_true, bne_self_eq_false, Bool.and_true, Bool.true_and, Bool.and_false, Bool.false_and, Bool.or_true, Bool.true_or, Bool.or_false, Bool.false_or, undef, hd0, List.length_map, List.getElem?_map, ho, Option.map_some, tHu, w3]
    cases hd1 : decide (d + v > f)
    · rw [hd1] at hLf
      rw [hLf, Bool.false_and, if_neg (by simp)] at hN
      simp only [su5, go_sem, Nat.reduceEqDiff, Nat.reduceAdd, Nat.reduceSub, Nat.reduceMul, Nat.reduceLT, Nat.reduceLeDiff, Nat.reduceMod, Nat.reduceDiv, Int.reduceToNat, Int.reduceLT, Int.reduceLE, Bool.not_true, Bool.not_false, reduceIte, Int.reduceEq, Int.reduceBEq, Int.reduceBNe, Int.reduceGT, Int.reduceGE, Int.reduceNeg, Int.reduceAdd, Int.reduceSub, Nat.reduceBEq, decide_true, decide_false, undef, beq_self_eq_true, bne_self_eq_false, Bool.and_true, Bool.true_and, Bool.and_false, Bool.false_and, Bool.or_true, Bool.true_or, Bool.or_false, Bool.false_or, undef, hd1, List.length_map, List.getElem?_map, ho, Option.map_some, tHu, l1, l2, hwj]
      refine ⟨⟨by unfold maxLen; omega, by omega⟩, ⟨by unfold maxLen; omega, by omega⟩, _, Sub.gc [0, 1] [18, 17, 2, 3, 4, 5, 8, 9, 10] rfl rfl, ?_⟩
      exact fin _ _ _ _ (by rw [hN]) hLf.symm rfl rfl rfl rfl rfl rfl (by rw [l1]; rfl) (by rw [l2]; rfl) rfl
    rw [hd1] at hLf
    rw [hLf, Bool.true_and] at hN
    simp only [su5, go_sem, Nat.reduceEqDiff, Nat.reduceAdd, Nat.reduceSub, Nat.reduceMul, Nat.reduceLT, Nat.reduceLeDiff, Nat.reduceMod, Nat.reduceDiv, Int.reduceToNat, Int.reduceLT, Int.reduceLE, Bool.not_true, Bool.not_false, reduceIte, Int.reduceEq, Int.reduceBEq, Int.reduceBNe, Int.reduceGT, Int.reduceGE, Int.reduceNeg, Int.reduceAdd, Int.reduceSub, Nat.reduceBEq, decide_true, decide_false, undef, beq_self_eq_true, bne_self_eq_false, Bool.and_true, Bool.true_and, Bool.and_false, Bool.false_and, Bool.or_true, Bool.true_or, Bool.or_false, Bool.false_or, undef, hd1, List.length_map, List.getElem?_map, ho, Option.map_some, tHu]
    cases hv : decide (v > b)
    · rw [hv, if_neg (by simp)] at hN
      simp only [su5, go_sem, Nat.reduceEqDiff, Nat.reduceAdd, Nat.reduceSub, Nat.reduceMul, Nat.reduceLT, Nat.reduceLeDiff, Nat.reduceMod, Nat.reduceDiv, Int.reduceToNat, Int.reduceLT, Int.reduceLE, Bool.not_true, Bool.not_false, reduceIte, Int.reduceEq, Int.reduceBEq, Int.reduceBNe, Int.reduceGT, Int.reduceGE, Int.reduceNeg, Int.reduceAdd, Int.reduceSub, Nat.reduceBEq, decide_true, decide_false, undef, beq_self_eq_true, bne_self_eq_false, Bool.and_true, Bool.true_and, Bool.and_false, Bool.false_and, Bool.or_true, Bool.true_or, Bool.or_false, Bool.false_or, undef, hv, List.length_map, List.getElem?_map, ho, Option.map_some, tHu, l1, l2, hwj]
      refine ⟨⟨by unfold maxLen; omega, by omega⟩, ⟨by unfold maxLen; omega, by omega⟩, _, Sub.gc [0, 1] [18, 17, 2, 3, 4, 5, 8, 9, 10] rfl rfl, ?_⟩
      exact fin _ _ _ _ (by rw [hN]) hLf.symm rfl rfl rfl rfl rfl rfl (by rw [l1]; rfl) (by rw [l2]; rfl) rfl
    · rw [hv, if_pos rfl] at hN
      simp only [su5, go_sem, Nat.reduceEqDiff, Nat.reduceAdd, Nat.reduceSub, Nat.reduceMul, Nat.reduceLT, Nat.reduceLeDiff, Nat.reduceMod, Nat.reduceDiv, Int.reduceToNat, Int.reduceLT, Int.reduceLE, Bool.not_true, Bool.not_false, reduceIte, Int.reduceEq, Int.reduceBEq, Int.reduceBNe, Int.reduceGT, Int.reduceGE, Int.reduceNeg, Int.reduceAdd, Int.reduceSub, Nat.reduceBEq, decide_true, decide_false, undef, beq_self_eq_true, bne_self_eq_false, Bool.and_true, Bool.true_and, Bool.and_false, Bool.false_and, Bool.or_true, Bool.true_or, Bool.or_false, Bool.false_or, undef, hv, List.length_map, List.getElem?_map, ho, Option.map_some, tHu, l1, l2, hwj, w4]
      refine ⟨⟨by unfold maxLen; omega, by omega⟩, ⟨by unfold maxLen; omega, by omega⟩, _, Sub.gc [0, 1] [18, 17, 2, 3, 4, 5, 8, 9, 10] rfl rfl, ?_⟩
      exact fin _ _ _ _ (by rw [hN]) hLf.symm rfl rfl rfl rfl rfl rfl (by rw [l1]; rfl) (by rw [l2]; rfl) rfl
  · rintro st rfl
    simp only [go_sem, Nat.reduceEqDiff, Nat.reduceAdd, Nat.reduceSub, Nat.reduceMul, Nat.reduceLT, Nat.reduceLeDiff, Nat.reduceMod, Nat.reduceDiv, Int.reduceToNat, Int.reduceLT, Int.reduceLE, Bool.not_true, Bool.not_false, reduceIte, Int.reduceEq, Int.reduceBEq, Int.reduceBNe, Int.reduceGT, Int.reduceGE, Int.reduceNeg, Int.reduceAdd, Int.reduceSub, Nat.reduceBEq, decide_true, decide_false, undef, beq_self_eq_true, bne_self_eq_false, Bool.and_true, Bool.true_and, Bool.and_false, Bool.false_and, Bool.or_true, Bool.true_or, Bool.or_false, Bool.false_or, undef]
    refine finL_ret [] ⟨rfl, rfl, rfl, rfl, _, rfl, ⟨?_, rfl⟩⟩
    show Out.ret (.tup [E.gc [] _ 11 (.loc 0 _), E.gc [] _ 11 (.loc 1 _)]) = _
    rw [gc_loc (n := 9) (id := 0) (xs := (rowsL s ⟨f, b, r⟩ os os.length).map fun z : Int => vi z) rfl rfl (by simp), gc_loc (n := 9) (id := 1) (xs := (floL s ⟨f, b, r⟩ os os.length).map fun z : Bool => vb z) rfl rfl (by simp)]
end Go.Proofs.YtmahocdmkpigjaaDoor
