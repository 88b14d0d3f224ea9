/- Proved here: laws that the statements need (SuC2s, SvD). No conditions but those that each law states. -/
import Derived.Test.YtmahocdmkpigjaaDoorFL
import Derived.Test.YtmahocdmkpigjaaDoorProg
import Derived.Test.YtmahocdmkpigjaaDoorSQ

set_option linter.unusedSimpArgs false
set_option linter.unusedVariables false

/- Compiled code of functions, printed by program; each is checked to be the program's. No conditions. -/
namespace Go.Proofs.YtmahocdmkpigjaaDoor
open Go Go.Ab
/-- dipworks/dipworksref04.Save -/
def c31 : AC :=
 .seq (.reg [⟨(some 2), none, .box (.tmp 0)⟩,
 ⟨(some 4), none, .mov (.lit (.slice none 0 0))⟩,
 ⟨(some 5), none, .mov (.lit (.int .i64 0))⟩,
 ⟨(some 6), none, .mov (.lit (.int .i64 0))⟩])
 (.seq (.draw (.step ⟨(some 13), none, .load true 5 (.tmp 2)⟩ (
 .step ⟨(some 14), none, .mov (.tmp 1)⟩ (
 .ev ⟨(some 15), none, .call (.fn 71) [(.tmp 14), (.lit (.int .i64 0)), (.lit (.int .i64 5))]⟩ [⟨(some 13), none, .load true 5 (.tmp 2)⟩] (
 .ev ⟨(some 16), none, .call (.fn 48) [(.tmp 13), (.tmp 15)]⟩ [] (
 .step ⟨(some 7), none, .mov (.tmp 16)⟩ (
 .done))
 (.stop))
 (.stop)))))
 (.seq (.seq (.reg [⟨(some 17), none, .mov (.tmp 7)⟩,
 ⟨(some 18), none, .bin .neq (.tmp 17) (.lit (.int .i64 0))⟩])
 (.cond (.tmp 18) (.seq (.reg [⟨(some 19), none, .mov (.tmp 7)⟩,
 ⟨(some 4), none, .mov (.lit (.slice none 0 0))⟩,
 ⟨(some 5), none, .mov (.lit (.int .i64 0))⟩,
 ⟨(some 6), none, .mov (.tmp 19)⟩])
 (.ret))
 (.skip)))
 (.seq (.reg [⟨(some 20), none, .load true 5 (.tmp 2)⟩,
 ⟨(some 21), none, .mov (.tmp 1)⟩,
 ⟨(some 22), none, .call (.fn 75) [(.tmp 20), (.tmp 21), (.lit (.slice none 0 0)), (.lit (.slice none 0 0))]⟩,
 ⟨(some 8), none, .mov (.tmp 22)⟩])
 (.seq (.reg [⟨(some 23), none, .mov (.tmp 8)⟩,
 ⟨(some 24), none, .iaddr 1 (.tmp 23) (.lit (.int .i64 0))⟩,
 ⟨(some 25), none, .load false 1 (.tmp 24)⟩,
 ⟨(some 9), none, .mov (.tmp 25)⟩])
 (.seq (.seq (.reg [⟨(some 10), none, .mov (.lit (.int .i64 0))⟩])
 (.block 0 (.loop (.seq (.seq (.reg [⟨(some 26), none, .mov (.tmp 10)⟩,
 ⟨(some 27), none, .mov (.tmp 8)⟩,
 ⟨(some 28), none, .len (.tmp 27)⟩,
 ⟨(some 29), none, .bin .lss (.tmp 26) (.tmp 28)⟩])
 (.cond (.tmp 29) (.skip)
 (.exit 0)))
 (.seq (.block 1 (.seq (.draw (.step ⟨(some 32), none, .load true 5 (.tmp 2)⟩ (
 .step ⟨(some 33), none, .mov (.tmp 8)⟩ (
 .step ⟨(some 34), none, .mov (.tmp 10)⟩ (
 .step ⟨(some 35), none, .iaddr 1 (.tmp 33) (.tmp 34)⟩ (
 .step ⟨(some 36), none, .load false 1 (.tmp 35)⟩ (
 .step ⟨(some 38), none, .load true 5 (.tmp 2)⟩ (
 .step ⟨(some 39), none, .mov (.tmp 9)⟩ (
 .ev ⟨(some 37), none, .call (.fn 76) [(.tmp 32), (.tmp 36)]⟩ [⟨(some 38), none, .load true 5 (.tmp 2)⟩, ⟨(some 35), none, .iaddr 1 (.tmp 33) (.tmp 34)⟩] (
 .ev ⟨(some 40), none, .call (.fn 76) [(.tmp 38), (.tmp 39)]⟩ [⟨(some 36), none, .load false 1 (.tmp 35)⟩, ⟨(some 35), none, .iaddr 1 (.tmp 33) (.tmp 34)⟩, ⟨(some 32), none, .load true 5 (.tmp 2)⟩] (
 .step ⟨(some 11), none, .mov (.tmp 37)⟩ (
 .step ⟨(some 12), none, .mov (.tmp 40)⟩ (
 .done)))
 (.stop))
 (.stop))))))))))
 (.seq (.reg [⟨(some 41), none, .mov (.tmp 11)⟩,
 ⟨(some 42), none, .call (.fn 39) [(.tmp 41)]⟩,
 ⟨(some 43), none, .mov (.tmp 12)⟩,
 ⟨(some 44), none, .call (.fn 39) [(.tmp 43)]⟩,
 ⟨(some 45), none, .bin .lss (.tmp 42) (.tmp 44)⟩,
 ⟨(some 46), none, .mov (.tmp 45)⟩,
 ⟨(some 47), (some (46, false)), .mov (.tmp 11)⟩,
 ⟨(some 48), (some (46, false)), .call (.fn 39) [(.tmp 47)]⟩,
 ⟨(some 49), (some (46, false)), .mov (.tmp 12)⟩,
 ⟨(some 50), (some (46, false)), .call (.fn 39) [(.tmp 49)]⟩,
 ⟨(some 51), (some (46, false)), .bin .eql (.tmp 48) (.tmp 50)⟩,
 ⟨(some 52), (some (46, false)), .mov (.tmp 51)⟩,
 ⟨(some 53), (some (52, true)), .mov (.tmp 11)⟩,
 ⟨(some 54), (some (52, true)), .mov (.tmp 12)⟩,
 ⟨(some 55), (some (52, true)), .bin .lss (.tmp 53) (.tmp 54)⟩,
 ⟨(some 56), (some (46, false)), .pick (.tmp 52) (.tmp 55) (.lit (.bool false))⟩,
 ⟨(some 57), none, .pick (.tmp 46) (.lit (.bool true)) (.tmp 56)⟩])
 (.cond (.tmp 57) (.reg [⟨(some 58), none, .mov (.tmp 8)⟩,
 ⟨(some 59), none, .mov (.tmp 10)⟩,
 ⟨(some 60), none, .iaddr 1 (.tmp 58) (.tmp 59)⟩,
 ⟨(some 61), none, .load false 1 (.tmp 60)⟩,
 ⟨(some 9), none, .mov (.tmp 61)⟩])
 (.skip)))))
 (.reg [⟨(some 30), none, .mov (.tmp 10)⟩,
 ⟨(some 31), none, .bin .add (.tmp 30) (.lit (.int .i64 1))⟩,
 ⟨(some 10), none, .mov (.tmp 31)⟩]))))))
 (.seq (.reg [⟨(some 62), none, .mov (.tmp 9)⟩,
 ⟨(some 63), none, .load true 5 (.tmp 2)⟩,
 ⟨(some 64), none, .mov (.tmp 9)⟩,
 ⟨(some 65), none, .call (.fn 76) [(.tmp 63), (.tmp 64)]⟩,
 ⟨(some 4), none, .mov (.tmp 62)⟩,
 ⟨(some 5), none, .mov (.tmp 65)⟩,
 ⟨(some 6), none, .mov (.lit (.int .i64 0))⟩])
 (.ret)))))))
theorem k31 : FnC Tryd.prog 31 66 [] [] [.tmp 4, .tmp 5, .tmp 6] c31 2 := ⟨Tryd.f31, _, Tryd.func31, rfl, by decide, rfl, by decide, by kernel_rfl, by kernel_rfl⟩
/-- dipworks/dipworksref04.drawn -/
def c75 : AC :=
 .seq (.reg [⟨(some 4), none, .box (.tmp 0)⟩,
 ⟨(some 8), none, .mov (.lit (.slice none 0 0))⟩])
 (.seq (.reg [⟨(some 13), none, .mov (.tmp 2)⟩,
 ⟨(some 14), none, .len (.tmp 13)⟩,
 ⟨(some 9), none, .mov (.tmp 14)⟩])
 (.seq (.seq (.reg [⟨(some 15), none, .mov (.tmp 9)⟩,
 ⟨(some 16), none, .faddr 4 (.tmp 4)⟩,
 ⟨(some 17), none, .load false 1 (.tmp 16)⟩,
 ⟨(some 18), none, .len (.tmp 17)⟩,
 ⟨(some 19), none, .bin .eql (.tmp 15) (.tmp 18)⟩])
 (.cond (.tmp 19) (.seq (.reg [⟨(some 20), none, .mov (.tmp 3)⟩,
 ⟨(some 21), none, .mov (.tmp 2)⟩,
 ⟨(some 22), none, .bslice 1 (.slice none 0 0) 1 [(0, (.tmp 21))]⟩,
 ⟨(some 23), none, .app 1 24 (.tmp 20) (.tmp 22)⟩,
 ⟨(some 8), none, .mov (.tmp 23)⟩])
 (.ret))
 (.skip)))
 (.seq (.draw (.step ⟨(some 24), none, .load true 5 (.tmp 4)⟩ (
 .step ⟨(some 25), none, .mov (.tmp 1)⟩ (
 .step ⟨(some 27), none, .mov (.tmp 2)⟩ (
 .step ⟨(some 31), none, .mov (.tmp 3)⟩ (
 .ev ⟨(some 26), none, .bslice 1 (.int .i64 0) 0 []⟩ [⟨(some 24), none, .load true 5 (.tmp 4)⟩] (
 .ev ⟨(some 28), none, .app 1 8 (.tmp 26) (.tmp 27)⟩ [⟨(some 24), none, .load true 5 (.tmp 4)⟩] (
 .ev ⟨(some 29), none, .bslice 1 (.int .i64 0) 1 [(0, (.lit (.int .i64 (-1))))]⟩ [⟨(some 24), none, .load true 5 (.tmp 4)⟩] (
 .ev ⟨(some 30), none, .app 1 8 (.tmp 28) (.tmp 29)⟩ [⟨(some 24), none, .load true 5 (.tmp 4)⟩] (
 .ev ⟨(some 32), none, .call (.fn 75) [(.tmp 24), (.tmp 25), (.tmp 30), (.tmp 31)]⟩ [] (
 .step ⟨(some 3), none, .mov (.tmp 32)⟩ (
 .done))
 (.stop))
 (.stop))
 (.stop))
 (.ev ⟨(some 29), none, .bslice 1 (.int .i64 0) 1 [(0, (.lit (.int .i64 (-1))))]⟩ [⟨(some 24), none, .load true 5 (.tmp 4)⟩] (
 .ev ⟨(some 28), none, .app 1 8 (.tmp 26) (.tmp 27)⟩ [⟨(some 24), none, .load true 5 (.tmp 4)⟩] (
 .ev ⟨(some 30), none, .app 1 8 (.tmp 28) (.tmp 29)⟩ [⟨(some 24), none, .load true 5 (.tmp 4)⟩] (
 .ev ⟨(some 32), none, .call (.fn 75) [(.tmp 24), (.tmp 25), (.tmp 30), (.tmp 31)]⟩ [] (
 .step ⟨(some 3), none, .mov (.tmp 32)⟩ (
 .done))
 (.stop))
 (.stop))
 (.stop))
 (.stop)))
 (.ev ⟨(some 29), none, .bslice 1 (.int .i64 0) 1 [(0, (.lit (.int .i64 (-1))))]⟩ [⟨(some 24), none, .load true 5 (.tmp 4)⟩] (
 .ev ⟨(some 26), none, .bslice 1 (.int .i64 0) 0 []⟩ [⟨(some 24), none, .load true 5 (.tmp 4)⟩] (
 .ev ⟨(some 28), none, .app 1 8 (.tmp 26) (.tmp 27)⟩ [⟨(some 24), none, .load true 5 (.tmp 4)⟩] (
 .ev ⟨(some 30), none, .app 1 8 (.tmp 28) (.tmp 29)⟩ [⟨(some 24), none, .load true 5 (.tmp 4)⟩] (
 .ev ⟨(some 32), none, .call (.fn 75) [(.tmp 24), (.tmp 25), (.tmp 30), (.tmp 31)]⟩ [] (
 .step ⟨(some 3), none, .mov (.tmp 32)⟩ (
 .done))
 (.stop))
 (.stop))
 (.stop))
 (.stop))
 (.stop))))))))
 (.seq (.seq (.reg [⟨(some 10), none, .mov (.lit (.int .i64 0))⟩])
 (.block 0 (.loop (.seq (.seq (.reg [⟨(some 33), none, .mov (.tmp 10)⟩,
 ⟨(some 34), none, .load true 5 (.tmp 4)⟩,
 ⟨(some 35), none, .mov (.tmp 9)⟩,
 ⟨(some 36), none, .call (.fn 64) [(.tmp 34), (.tmp 35)]⟩,
 ⟨(some 37), none, .bin .lss (.tmp 33) (.tmp 36)⟩])
 (.cond (.tmp 37) (.skip)
 (.exit 0)))
 (.seq (.block 1 (.seq (.reg [⟨(some 11), none, .mov (.lit (.int .i64 0))⟩])
 (.seq (.seq (.reg [⟨(some 12), none, .mov (.lit (.int .i64 0))⟩])
 (.block 2 (.loop (.seq (.seq (.reg [⟨(some 40), none, .mov (.tmp 12)⟩,
 ⟨(some 41), none, .mov (.tmp 9)⟩,
 ⟨(some 42), none, .bin .lss (.tmp 40) (.tmp 41)⟩])
 (.cond (.tmp 42) (.skip)
 (.exit 2)))
 (.seq (.block 3 (.seq (.reg [⟨(some 45), none, .mov (.tmp 2)⟩,
 ⟨(some 46), none, .mov (.tmp 12)⟩,
 ⟨(some 47), none, .iaddr 1 (.tmp 45) (.tmp 46)⟩,
 ⟨(some 48), none, .load false 1 (.tmp 47)⟩,
 ⟨(some 49), none, .mov (.tmp 10)⟩,
 ⟨(some 50), none, .bin .eql (.tmp 48) (.tmp 49)⟩])
 (.cond (.tmp 50) (.reg [⟨(some 51), none, .mov (.tmp 11)⟩,
 ⟨(some 52), none, .bin .add (.tmp 51) (.lit (.int .i64 1))⟩,
 ⟨(some 11), none, .mov (.tmp 52)⟩])
 (.skip))))
 (.reg [⟨(some 43), none, .mov (.tmp 12)⟩,
 ⟨(some 44), none, .bin .add (.tmp 43) (.lit (.int .i64 1))⟩,
 ⟨(some 12), none, .mov (.tmp 44)⟩]))))))
 (.seq (.reg [⟨(some 53), none, .mov (.tmp 11)⟩,
 ⟨(some 54), none, .mov (.tmp 1)⟩,
 ⟨(some 55), none, .bin .lss (.tmp 53) (.tmp 54)⟩])
 (.cond (.tmp 55) (.draw (.step ⟨(some 56), none, .load true 5 (.tmp 4)⟩ (
 .step ⟨(some 57), none, .mov (.tmp 1)⟩ (
 .step ⟨(some 59), none, .mov (.tmp 2)⟩ (
 .step ⟨(some 61), none, .mov (.tmp 10)⟩ (
 .step ⟨(some 64), none, .mov (.tmp 3)⟩ (
 .ev ⟨(some 58), none, .bslice 1 (.int .i64 0) 0 []⟩ [⟨(some 56), none, .load true 5 (.tmp 4)⟩] (
 .ev ⟨(some 60), none, .app 1 8 (.tmp 58) (.tmp 59)⟩ [⟨(some 56), none, .load true 5 (.tmp 4)⟩] (
 .ev ⟨(some 62), none, .bslice 1 (.int .i64 0) 1 [(0, (.tmp 61))]⟩ [⟨(some 56), none, .load true 5 (.tmp 4)⟩] (
 .ev ⟨(some 63), none, .app 1 8 (.tmp 60) (.tmp 62)⟩ [⟨(some 56), none, .load true 5 (.tmp 4)⟩] (
 .ev ⟨(some 65), none, .call (.fn 75) [(.tmp 56), (.tmp 57), (.tmp 63), (.tmp 64)]⟩ [] (
 .step ⟨(some 3), none, .mov (.tmp 65)⟩ (
 .done))
 (.stop))
 (.stop))
 (.stop))
 (.ev ⟨(some 62), none, .bslice 1 (.int .i64 0) 1 [(0, (.tmp 61))]⟩ [⟨(some 56), none, .load true 5 (.tmp 4)⟩] (
 .ev ⟨(some 60), none, .app 1 8 (.tmp 58) (.tmp 59)⟩ [⟨(some 56), none, .load true 5 (.tmp 4)⟩] (
 .ev ⟨(some 63), none, .app 1 8 (.tmp 60) (.tmp 62)⟩ [⟨(some 56), none, .load true 5 (.tmp 4)⟩] (
 .ev ⟨(some 65), none, .call (.fn 75) [(.tmp 56), (.tmp 57), (.tmp 63), (.tmp 64)]⟩ [] (
 .step ⟨(some 3), none, .mov (.tmp 65)⟩ (
 .done))
 (.stop))
 (.stop))
 (.stop))
 (.stop)))
 (.ev ⟨(some 62), none, .bslice 1 (.int .i64 0) 1 [(0, (.tmp 61))]⟩ [⟨(some 56), none, .load true 5 (.tmp 4)⟩] (
 .ev ⟨(some 58), none, .bslice 1 (.int .i64 0) 0 []⟩ [⟨(some 56), none, .load true 5 (.tmp 4)⟩] (
 .ev ⟨(some 60), none, .app 1 8 (.tmp 58) (.tmp 59)⟩ [⟨(some 56), none, .load true 5 (.tmp 4)⟩] (
 .ev ⟨(some 63), none, .app 1 8 (.tmp 60) (.tmp 62)⟩ [⟨(some 56), none, .load true 5 (.tmp 4)⟩] (
 .ev ⟨(some 65), none, .call (.fn 75) [(.tmp 56), (.tmp 57), (.tmp 63), (.tmp 64)]⟩ [] (
 .step ⟨(some 3), none, .mov (.tmp 65)⟩ (
 .done))
 (.stop))
 (.stop))
 (.stop))
 (.stop))
 (.stop)))))))))
 (.skip))))))
 (.reg [⟨(some 38), none, .mov (.tmp 10)⟩,
 ⟨(some 39), none, .bin .add (.tmp 38) (.lit (.int .i64 1))⟩,
 ⟨(some 10), none, .mov (.tmp 39)⟩]))))))
 (.seq (.reg [⟨(some 66), none, .mov (.tmp 3)⟩,
 ⟨(some 8), none, .mov (.tmp 66)⟩])
 (.ret))))))
theorem k75 : FnC Tryd.prog 75 67 [] [] [.tmp 8] c75 4 := ⟨Tryd.f75, _, Tryd.func75, rfl, by decide, rfl, by decide, by kernel_rfl, by kernel_rfl⟩
/-- dipworks/dipworksref04.Left -/
def c76 : AC :=
 .seq (.reg [⟨(some 2), none, .box (.tmp 0)⟩,
 ⟨(some 4), none, .mov (.lit (.int .i64 0))⟩])
 (.seq (.reg [⟨(some 5), none, .mov (.lit (.int .i64 0))⟩])
 (.seq (.seq (.reg [⟨(some 6), none, .mov (.lit (.int .i64 0))⟩])
 (.block 0 (.loop (.seq (.seq (.reg [⟨(some 7), none, .mov (.tmp 6)⟩,
 ⟨(some 8), none, .mov (.tmp 1)⟩,
 ⟨(some 9), none, .len (.tmp 8)⟩,
 ⟨(some 10), none, .bin .lss (.tmp 7) (.tmp 9)⟩])
 (.cond (.tmp 10) (.skip)
 (.exit 0)))
 (.seq (.block 1 (.seq (.reg [⟨(some 13), none, .mov (.tmp 1)⟩,
 ⟨(some 14), none, .mov (.tmp 6)⟩,
 ⟨(some 15), none, .iaddr 1 (.tmp 13) (.tmp 14)⟩,
 ⟨(some 16), none, .load false 1 (.tmp 15)⟩,
 ⟨(some 17), none, .bin .lss (.tmp 16) (.lit (.int .i64 0))⟩,
 ⟨(some 18), none, .mov (.tmp 17)⟩,
 ⟨(some 19), (some (18, true)), .load true 5 (.tmp 2)⟩,
 ⟨(some 20), (some (18, true)), .mov (.tmp 6)⟩,
 ⟨(some 21), (some (18, true)), .call (.fn 64) [(.tmp 19), (.tmp 20)]⟩,
 ⟨(some 22), (some (18, true)), .bin .geq (.tmp 21) (.lit (.int .i64 0))⟩,
 ⟨(some 23), none, .pick (.tmp 18) (.tmp 22) (.lit (.bool false))⟩])
 (.cond (.tmp 23) (.reg [⟨(some 24), none, .mov (.tmp 5)⟩,
 ⟨(some 25), none, .mov (.tmp 6)⟩,
 ⟨(some 26), none, .call (.fn 58) [(.tmp 25)]⟩,
 ⟨(some 27), none, .bin .add (.tmp 24) (.tmp 26)⟩,
 ⟨(some 5), none, .mov (.tmp 27)⟩])
 (.skip))))
 (.reg [⟨(some 11), none, .mov (.tmp 6)⟩,
 ⟨(some 12), none, .bin .add (.tmp 11) (.lit (.int .i64 1))⟩,
 ⟨(some 6), none, .mov (.tmp 12)⟩]))))))
 (.seq (.reg [⟨(some 28), none, .mov (.tmp 5)⟩,
 ⟨(some 4), none, .mov (.tmp 28)⟩])
 (.ret))))
theorem k76 : FnC Tryd.prog 76 29 [] [] [.tmp 4] c76 2 := ⟨Tryd.f76, _, Tryd.func76, rfl, by decide, rfl, by decide, by kernel_rfl, by kernel_rfl⟩
end Go.Proofs.YtmahocdmkpigjaaDoor

/- The document's lists of hours: rows of rows that grow by recursion. -/
namespace Go.Proofs.YtmahocdmkpigjaaDoor
open Go Go.Ab

def tI' (l : List Int) : T := .slice 1 (l.map vi)
def rowI (l : List Int) : AO := .row 1 ((l.map vi).map .t)
def rowR (L : List (List Int)) : AO := .row 1 ((L.map tI').map .t)
def rdr (F : Nat → Int) (many : Int) : Nat → List Int → List (List Int)
  | 0, bg => [bg]
  | l + 1, bg => rdr F many l (bg ++ [-1]) ++ (List.range (F bg.length).toNat).flatMap fun h : Nat => if decide ((bg.count (h : Int) : Int) < many) then rdr F many l (bg ++ [(h : Int)]) else []
theorem flatMap_len {α : Type} (g : Nat → List α) (B : Nat) (h : ∀ o, (g o).length ≤ B) : ∀ n, ((List.range n).flatMap g).length ≤ n * B
  | 0 => by simp
  | n + 1 => by
    have := flatMap_len g B h n
    have := h n
    rw [List.range_succ, List.flatMap_append, List.length_append]
    simp only [List.flatMap_cons, List.flatMap_nil, List.append_nil]
    rw [Nat.add_mul, Nat.one_mul]
    omega
theorem rdr_len (F : Nat → Int) (hF : ∀ i, F i ≤ 7) (many : Int) : ∀ (l : Nat) (bg : List Int), (rdr F many l bg).length ≤ 8 ^ l
  | 0, _ => by simp [rdr]
  | l + 1, bg => by
    have h1 := rdr_len F hF many l (bg ++ [-1])
    have h2 := flatMap_len (fun h : Nat => if decide ((bg.count (h : Int) : Int) < many) then rdr F many l (bg ++ [(h : Int)]) else []) (8 ^ l) (fun o => by
      split
      · exact rdr_len F hF many l _
      · simp) (F bg.length).toNat
    have h3 : (F bg.length).toNat * 8 ^ l ≤ 7 * 8 ^ l := Nat.mul_le_mul_right _ (by have := hF bg.length; omega)
    unfold rdr
    rw [List.length_append, Nat.pow_succ]
    omega
/-- What a call makes of the rows that are handed over. -/
def TrR (F : Nat → Int) (many : Int) (l : Nat) (bg : List Int) (out : List (List Int)) (o : Out) (σ' : List AO) : Prop := ∃ xs : List E, o = .ret (.loc 0 xs.length) ∧ σ' = [.row 1 xs, rowI bg] ∧ (xs = ((out ++ rdr F many l bg).map tI').map .t ∨ (l = 0 ∧ xs = ((out.map tI').map .t) ++ [.loc 1 bg.length]))
theorem rdr_at {s : Su} {F : Nat → Int} {many : Int} {l : Nat} {bg : List Int} {out : List (List Int)} (h : ACall Tryd.prog 75 [.t (.agg (su5 s)), .t (vi many), .loc 1 bg.length, .loc 0 out.length] [rowR out, rowI bg] (TrR F many l bg out)) {p q : Nat} {σ : List AO} {R : Lz (Out → List AO → Prop)} (hq : σ[q]? = some (rowR out)) (hp : σ[p]? = some (rowI bg)) (hpq : q ≠ p)
    (hk : ∀ xs : List E, (xs = ((out ++ rdr F many l bg).map tI').map .t ∨ (l = 0 ∧ xs = ((out.map tI').map .t) ++ [.loc p bg.length])) → R.get (.ret (.loc q xs.length)) (σ.set q (.row 1 xs))) : @ACallL Tryd.prog 75 [.t (.agg (su5 s)), .t (vi many), .loc p bg.length, .loc q out.length] σ R := by
  have hpl := (List.getElem?_eq_some_iff.1 hp).1
  have hql := (List.getElem?_eq_some_iff.1 hq).1
  have e0 : lendR [q, p] σ.length 0 = q := rfl
  have e1 : lendR [q, p] σ.length 1 = p := rfl
  have hbR : (rowI bg).ren (lendR [q, p] σ.length) = rowI bg := by
    show AO.row 1 (E.rens _ ((bg.map vi).map .t)) = _
    rw [rens_TI]; (try rfl)
  have hoR : (rowR out).ren (lendR [q, p] σ.length) = rowR out := by
    show AO.row 1 (E.rens _ ((out.map tI').map .t)) = _
    rw [rens_TI]; (try rfl)
  refine ACall.mono (ACall.lend [q, p] h (by simpa using hpq) (by simp; omega) rfl (fun i o ho => ?_) (args := [.t (.agg (su5 s)), .t (vi many), .loc p bg.length, .loc q out.length]) (by simp [E.rens_map, E.ren, e0, e1])) ?_
  · match i, ho with
    | 0, ho => simp at ho; subst ho; rw [hoR]; exact hq
    | 1, ho => simp at ho; subst ho; rw [hbR]; exact hp
  · rintro o σ1 ⟨o0, σ0, ⟨xs, rfl, rfl, hx⟩, _, rfl, rfl⟩
    have hs : ∀ a : AO, (σ.set q a).set p (rowI bg) = σ.set q a := fun a => by
      apply List.ext_getElem?
      intro i
      by_cases hi : i = p
      · subst hi
        rw [List.getElem?_set_self (by simpa using hpl), List.getElem?_set_ne hpq, hp]
      · rw [List.getElem?_set_ne (fun e => hi e.symm)]
    have := hk (E.rens (lendR [q, p] σ.length) xs) (by
      rcases hx with rfl | ⟨h0, rfl⟩
      · exact .inl (rens_TI _ _)
      · refine .inr ⟨h0, ?_⟩
        rw [E.rens_map, List.map_append, ← E.rens_map, rens_TI]
        simp [E.ren, e1])
    have hlen : (E.rens (lendR [q, p] σ.length) xs).length = xs.length := by rw [E.rens_map, List.length_map]
    rw [hlen] at this
    simp only [List.map_cons, List.map_nil, hbR, lendB, Out.ren, E.ren, List.append_nil, e0]
    have e2 := hs (AO.row 1 (E.rens (lendR [q, p] σ.length) xs))
    exact e2.symm ▸ this
theorem gc_rowR {kp : List Nat} {σ : List AO} {n : Nat} {ys : List T} {xs : List E} (h : xs = ys.map .t ∨ ∃ (zs : List T) (p : Nat) (bs : List Int), xs = zs.map .t ++ [.loc p bs.length] ∧ pos? kp p = none ∧ σ[p]? = some (rowI bs) ∧ ys = zs ++ [tI' bs]) : xs.map (E.gc kp σ (n + 2)) = ys.map .t := by
  rcases h with rfl | ⟨zs, p, bs, rfl, h1, h2, rfl⟩
  · exact gc_row _
  · rw [List.map_append, gc_row, List.map_append]
    congr 1
    simp only [List.map_cons, List.map_nil]
    rw [gc_loc (n := n) h1 h2 (by rw [List.length_map])]
    rfl
theorem gc_locE {kp : List Nat} {σ : List AO} {n id m es : Nat} {xs : List E} {ys : List T} (h : pos? kp id = none) (ho : σ[id]? = some (.row es xs)) (hm : m = xs.length) (hg : xs.map (E.gc kp σ (n + 1)) = ys.map .t) : E.gc kp σ (n + 2) (.loc id m) = .t (.slice es ys) := by
  rw [E.gc]
  simp only [h, ho, hm, if_true, hg, allT_t]
set_option maxRecDepth 8000 in
set_option maxHeartbeats 16000000 in
theorem rdr_ok (s : Su) (hs : s.OK) (many : Int) : ∀ (l : Nat) (bg : List Int) (out : List (List Int)), bg.length + l = s.huts.length → out.length + 8 ^ l ≤ 100000 → ACall Tryd.prog 75 [.t (.agg (su5 s)), .t (vi many), .loc 1 bg.length, .loc 0 out.length] [rowR out, rowI bg] (TrR (fstH s) many l bg out) := by
  intro l
  have hn5 := hs.nh
  induction l with
  | zero =>
    intro bg out hb ho
    refine ACall.walk k75 ?_
    have x1 : (out.length + 1 ≤ maxLen) = True := eq_true (by unfold maxLen; omega)
    have x2 : ((out.length + 1) * 24 ≤ 140737488355328) = True := eq_true (by omega)
    have hbE : ((bg.length : Int) == (s.huts.length : Int)) = true := beq_iff_eq.2 (by omega)
    unfold c75 su5 rowR rowI
    simp only [go_sem, Nat.reduceEqDiff, Nat.reduceAdd, Nat.reduceSub, Nat.reduceMul, Nat.reduceLT, Nat.reduceLeDiff, Nat.reduceMod, Nat.reduceDiv, Int.reduceToNat, Int.reduceLT, Int.reduceLE, Bool.not_true, Bool.not_false, reduceIte, Int.reduceEq, Int.reduceBEq, Int.reduceBNe, Int.reduceGT, Int.reduceGE, Int.reduceNeg, Int.reduceAdd, Int.reduceSub, Nat.reduceBEq, decide_true, decide_false, undef, beq_self_eq_true, bne_self_eq_false, Bool.and_true, Bool.true_and, Bool.and_false, Bool.false_and, Bool.or_true, Bool.true_or, Bool.or_false, Bool.false_or, List.length_map, hbE, x1, x2]
    refine finL_ret [0, 1] ⟨rfl, rfl, rfl, rfl, _, rfl, ((out.map tI').map .t) ++ [.loc 1 bg.length], ?_, ?_, .inr ⟨rfl, rfl⟩⟩
    · simp; rfl
    · unfold σgc
      simp only [List.map_cons, List.map_nil, List.getD_cons_zero, List.getD_cons_succ, AO.gc, gc_row, List.map_append]
      rfl
  | succ l ih =>
    intro bg out hb ho
    refine ACall.walk k75 ?_
    have hpw : 8 ^ (l + 1) = 8 ^ l * 8 := Nat.pow_succ _ _
    have hbl : bg.length < s.huts.length := by omega
    have hbE : ((bg.length : Int) == (s.huts.length : Int)) = false := beq_false_of_ne (by omega)
    have hin : ∀ (v : Int), (bg.map vi).map E.t ++ [E.t (vi v)] = ((bg ++ [v]).map vi).map E.t := fun v => by simp
    have hil : ∀ (v : Int), (bg ++ [v]).length = bg.length + 1 := fun v => by simp
    have y1 : (bg.length ≤ maxLen) = True := eq_true (by unfold maxLen; omega)
    have y2 : (bg.length * 8 ≤ 140737488355328) = True := eq_true (by omega)
    have y3 : (bg.length + 1 ≤ maxLen) = True := eq_true (by unfold maxLen; omega)
    have y4 : ((bg.length + 1) * 8 ≤ 140737488355328) = True := eq_true (by omega)
    have hx : s.huts[bg.length]? = some s.huts[bg.length] := List.getElem?_eq_getElem hbl
    have qF := rfirst_ok s hs hx
    have hFe : fstH s bg.length = firstS s s.huts[bg.length] := by
      unfold fstH
      rw [List.getD_eq_getElem?_getD, hx]; rfl
    have hFr := first_rng s hs s.huts[bg.length]
    rw [← hFe] at qF hFr
    have hF7 : ∀ i, fstH s i ≤ 7 := fun i => (first_rng s hs _).2
    have hr : rdr (fstH s) many (l + 1) bg = rdr (fstH s) many l (bg ++ [-1]) ++ (List.range (fstH s bg.length).toNat).flatMap fun h : Nat => if decide ((bg.count (h : Int) : Int) < many) then rdr (fstH s) many l (bg ++ [(h : Int)]) else [] := rfl
    unfold TrR
    rw [hr, ← List.append_assoc]
    have hlen1 := rdr_len (fstH s) hF7 many l (bg ++ [-1])
    have hsplit : ∀ j, (List.range (j + 1)).flatMap (fun h : Nat => if decide ((bg.count (h : Int) : Int) < many) then rdr (fstH s) many l (bg ++ [(h : Int)]) else []) = (List.range j).flatMap (fun h : Nat => if decide ((bg.count (h : Int) : Int) < many) then rdr (fstH s) many l (bg ++ [(h : Int)]) else []) ++ if decide ((bg.count (j : Int) : Int) < many) then rdr (fstH s) many l (bg ++ [(j : Int)]) else [] := fun j => by
      rw [List.range_succ, List.flatMap_append]; simp
    have hbound : ∀ j, ((List.range j).flatMap (fun h : Nat => if decide ((bg.count (h : Int) : Int) < many) then rdr (fstH s) many l (bg ++ [(h : Int)]) else [])).length ≤ j * 8 ^ l := fun j => flatMap_len _ _ (fun o => by
      split
      · exact rdr_len (fstH s) hF7 many l _
      · simp) j
    have ih1 := ih (bg ++ [-1]) out (by simp; omega) (by omega)
    have hap1 := fun {p q σ R} => @rdr_at s (fstH s) many l (bg ++ [-1]) out ih1 p q σ R
    rw [hil] at hap1
    have hr0 : l = 0 → rdr (fstH s) many l (bg ++ [-1]) = [bg ++ [-1]] := fun e => by subst e; rfl
    have hin1 := hin (-1)
    generalize rdr (fstH s) many l (bg ++ [-1]) = R1 at *
    generalize fstH s bg.length = F at *
    unfold c75
    unfold su5 rowR rowI at hap1
    unfold su5 at qF
    unfold su5 rowR rowI
    simp only [go_sem, Nat.reduceEqDiff, Nat.reduceAdd, Nat.reduceSub, Nat.reduceMul, Nat.reduceLT, Nat.reduceLeDiff, Nat.reduceMod, Nat.reduceDiv, Int.reduceToNat, Int.reduceLT, Int.reduceLE, Bool.not_true, Bool.not_false, reduceIte, Int.reduceEq, Int.reduceBEq, Int.reduceBNe, Int.reduceGT, Int.reduceGE, Int.reduceNeg, Int.reduceAdd, Int.reduceSub, Nat.reduceBEq, decide_true, decide_false, undef, beq_self_eq_true, bne_self_eq_false, Bool.and_true, Bool.true_and, Bool.and_false, Bool.false_and, Bool.or_true, Bool.true_or, Bool.or_false, Bool.false_or, List.length_map, hbE, y1, y2, y3, y4, hin1, hil]
    repeat' (first | refine AndL.mk ?_ ?_ | simp only [go_sem, Nat.reduceEqDiff, Nat.reduceAdd, Nat.reduceSub, Nat.reduceMul, Nat.reduceLT, Nat.reduceLeDiff, Nat.reduceMod, Nat.reduceDiv, Int.reduceToNat, Int.reduceLT, Int.reduceLE, Bool.not_true, Bool.not_false, reduceIte, Int.reduceEq, Int.reduceBEq, Int.reduceBNe, Int.reduceGT, Int.reduceGE, Int.reduceNeg, Int.reduceAdd, Int.reduceSub, Nat.reduceBEq, decide_true, decide_false, undef, beq_self_eq_true, bne_self_eq_false, Bool.and_true, Bool.true_and, Bool.and_false, Bool.false_and, Bool.or_true, Bool.true_or, Bool.or_false, Bool.false_or, List.length_map, y1, y2, y3, y4, hin1, hil])
    all_goals
      first | refine hap1 (p := 3) (q := 0) rfl rfl (by decide) ?_ | refine hap1 (p := 4) (q := 0) rfl rfl (by decide) ?_
      intro xs hx
      have hxl : xs.length = ((out ++ R1).map tI').length := by
        rcases hx with rfl | ⟨h0, rfl⟩
        · simp
        · rw [hr0 h0]; simp
      simp only [go_sem, Nat.reduceEqDiff, Nat.reduceAdd, Nat.reduceSub, Nat.reduceMul, Nat.reduceLT, Nat.reduceLeDiff, Nat.reduceMod, Nat.reduceDiv, Int.reduceToNat, Int.reduceLT, Int.reduceLE, Bool.not_true, Bool.not_false, reduceIte, Int.reduceEq, Int.reduceBEq, Int.reduceBNe, Int.reduceGT, Int.reduceGE, Int.reduceNeg, Int.reduceAdd, Int.reduceSub, Nat.reduceBEq, decide_true, decide_false, undef, beq_self_eq_true, bne_self_eq_false, Bool.and_true, Bool.true_and, Bool.and_false, Bool.false_and, Bool.or_true, Bool.true_or, Bool.or_false, Bool.false_or, List.set_cons_zero, hxl]
      refine awpL_loopK F.toNat (fun j st => st = { env := [(10, .t (vi j)), (1, .t (vi many)), (2, .loc 1 bg.length), (3, .loc 0 (out ++ R1 ++ (List.range j).flatMap (fun h : Nat => if decide ((bg.count (h : Int) : Int) < many) then rdr (fstH s) many l (bg ++ [(h : Int)]) else [])).length), (4, .ptr 2 0), (9, .t (vi bg.length))], σ := [rowR (out ++ R1 ++ (List.range j).flatMap (fun h : Nat => if decide ((bg.count (h : Int) : Int) < many) then rdr (fstH s) many l (bg ++ [(h : Int)]) else [])), rowI bg, .cells ((su5 s).map .t)] })
        ⟨_, Sub.gc [0, 1, 2] [10, 1, 2, 3, 4, 9] rfl rfl, ?_⟩ ?_
      · have e0 : out ++ R1 ++ (List.range 0).flatMap (fun h : Nat => if decide ((bg.count (h : Int) : Int) < many) then rdr (fstH s) many l (bg ++ [(h : Int)]) else []) = out ++ R1 := by simp
        rw [e0]
        refine St.gc_mk ?_ ?_ rfl rfl
        · rw [List.length_map]; rfl
        · unfold σgc
          simp only [List.map_cons, List.map_nil, List.getD_cons_zero, List.getD_cons_succ, AO.gc, gc_row]
          rw [gc_rowR (ys := (out ++ R1).map tI') (by
            rcases hx with rfl | ⟨h0, rfl⟩
            · exact .inl rfl
            · refine .inr ⟨out.map tI', _, bg ++ [-1], by rw [hil], by rfl, rfl, ?_⟩
              rw [hr0 h0]
              simp)]
          rfl
      rintro j st hj rfl
      have hj0 : ((j : Int) < 0) = False := eq_false (by omega)
      have hwj : IntKind.i64.wrap ((j : Int) + 1) = ((j + 1 : Nat) : Int) := by rw [wrap_id (by omega) (by omega)]; omega
      have hbj := hbound j
      have ih' := ih (bg ++ [(j : Int)]) (out ++ R1 ++ (List.range j).flatMap (fun h : Nat => if decide ((bg.count (h : Int) : Int) < many) then rdr (fstH s) many l (bg ++ [(h : Int)]) else [])) (by simp; omega)
      have hPl : (out ++ R1 ++ (List.range j).flatMap (fun h : Nat => if decide ((bg.count (h : Int) : Int) < many) then rdr (fstH s) many l (bg ++ [(h : Int)]) else [])).length = out.length + R1.length + ((List.range j).flatMap (fun h : Nat => if decide ((bg.count (h : Int) : Int) < many) then rdr (fstH s) many l (bg ++ [(h : Int)]) else [])).length := by rw [List.length_append, List.length_append]
      cases g : decide ((j : Int) < F)
      · have hje : j = F.toNat := by have := of_decide_eq_false g; omega
        rw [← hje]
        generalize out ++ R1 ++ (List.range j).flatMap (fun h : Nat => if decide ((bg.count (h : Int) : Int) < many) then rdr (fstH s) many l (bg ++ [(h : Int)]) else []) = P at *
        unfold rowR rowI su5
        simp only [go_sem, Nat.reduceEqDiff, Nat.reduceAdd, Nat.reduceSub, Nat.reduceMul, Nat.reduceLT, Nat.reduceLeDiff, Nat.reduceMod, Nat.reduceDiv, Int.reduceToNat, Int.reduceLT, Int.reduceLE, Bool.not_true, Bool.not_false, reduceIte, Int.reduceEq, Int.reduceBEq, Int.reduceBNe, Int.reduceGT, Int.reduceGE, Int.reduceNeg, Int.reduceAdd, Int.reduceSub, Nat.reduceBEq, decide_true, decide_false, undef, beq_self_eq_true, bne_self_eq_false, Bool.and_true, Bool.true_and, Bool.and_false, Bool.false_and, Bool.or_true, Bool.true_or, Bool.or_false, Bool.false_or, List.length_map]
        refine ACallL.quiet1 qF rfl rfl rfl ?_
        simp only [go_sem, Nat.reduceEqDiff, Nat.reduceAdd, Nat.reduceSub, Nat.reduceMul, Nat.reduceLT, Nat.reduceLeDiff, Nat.reduceMod, Nat.reduceDiv, Int.reduceToNat, Int.reduceLT, Int.reduceLE, Bool.not_true, Bool.not_false, reduceIte, Int.reduceEq, Int.reduceBEq, Int.reduceBNe, Int.reduceGT, Int.reduceGE, Int.reduceNeg, Int.reduceAdd, Int.reduceSub, Nat.reduceBEq, decide_true, decide_false, undef, beq_self_eq_true, bne_self_eq_false, Bool.and_true, Bool.true_and, Bool.and_false, Bool.false_and, Bool.or_true, Bool.true_or, Bool.or_false, Bool.false_or, List.length_map, g]
        refine finL_ret [0, 1] ⟨rfl, rfl, rfl, rfl, _, rfl, _, ?_, ?_, .inl rfl⟩
        · rw [List.length_map, List.length_map]; rfl
        · unfold σgc
          simp only [List.map_cons, List.map_nil, List.getD_cons_zero, List.getD_cons_succ, AO.gc, gc_row]
      have hjF := of_decide_eq_true g
      have hjlt : j < F.toNat := by omega
      have hmul : j * 8 ^ l ≤ 6 * 8 ^ l := Nat.mul_le_mul_right _ (by omega)
      have ih2 := ih' (by rw [hPl]; generalize 8 ^ l = W at *; omega)
      have hsp := hsplit j
      rw [hsp, ← List.append_assoc]
      have hr00 : l = 0 → rdr (fstH s) many l (bg ++ [(j : Int)]) = [bg ++ [(j : Int)]] := fun e => by subst e; rfl
      generalize out ++ R1 ++ (List.range j).flatMap (fun h : Nat => if decide ((bg.count (h : Int) : Int) < many) then rdr (fstH s) many l (bg ++ [(h : Int)]) else []) = P at *
      have hin' := hin (j : Int)
      have hap := fun {p q σ R} => @rdr_at s (fstH s) many l (bg ++ [(j : Int)]) P ih2 p q σ R
      rw [hil] at hap
      unfold su5 rowR rowI at hap
      generalize rdr (fstH s) many l (bg ++ [(j : Int)]) = R2 at *
      unfold rowR rowI su5
      simp only [go_sem, Nat.reduceEqDiff, Nat.reduceAdd, Nat.reduceSub, Nat.reduceMul, Nat.reduceLT, Nat.reduceLeDiff, Nat.reduceMod, Nat.reduceDiv, Int.reduceToNat, Int.reduceLT, Int.reduceLE, Bool.not_true, Bool.not_false, reduceIte, Int.reduceEq, Int.reduceBEq, Int.reduceBNe, Int.reduceGT, Int.reduceGE, Int.reduceNeg, Int.reduceAdd, Int.reduceSub, Nat.reduceBEq, decide_true, decide_false, undef, beq_self_eq_true, bne_self_eq_false, Bool.and_true, Bool.true_and, Bool.and_false, Bool.false_and, Bool.or_true, Bool.true_or, Bool.or_false, Bool.false_or, List.length_map]
      refine ACallL.quiet1 qF rfl rfl rfl ?_
      simp only [go_sem, Nat.reduceEqDiff, Nat.reduceAdd, Nat.reduceSub, Nat.reduceMul, Nat.reduceLT, Nat.reduceLeDiff, Nat.reduceMod, Nat.reduceDiv, Int.reduceToNat, Int.reduceLT, Int.reduceLE, Bool.not_true, Bool.not_false, reduceIte, Int.reduceEq, Int.reduceBEq, Int.reduceBNe, Int.reduceGT, Int.reduceGE, Int.reduceNeg, Int.reduceAdd, Int.reduceSub, Nat.reduceBEq, decide_true, decide_false, undef, beq_self_eq_true, bne_self_eq_false, Bool.and_true, Bool.true_and, Bool.and_false, Bool.false_and, Bool.or_true, Bool.true_or, Bool.or_false, Bool.false_or, List.length_map, g]
      refine awpL_loopK bg.length (fun i st => st = { env := [(12, .t (vi i)), (1, .t (vi many)), (2, .loc 1 bg.length), (3, .loc 0 P.length), (4, .ptr 2 0), (9, .t (vi bg.length)), (10, .t (vi j)), (11, .t (vi ((bg.take i).count (j : Int))))], σ := [rowR P, rowI bg, .cells ((su5 s).map .t)] })
        ⟨_, Sub.gc [0, 1, 2] [12, 1, 2, 3, 4, 9, 10, 11] rfl rfl, St.gc_mk rfl (by unfold σgc; simp only [List.map_cons, List.map_nil, List.getD_cons_zero, List.getD_cons_succ, AO.gc, gc_row]; rfl) rfl rfl⟩ ?_
      rintro i st hi rfl
      have hi0 : ((i : Int) < 0) = False := eq_false (by omega)
      have hwi : IntKind.i64.wrap ((i : Int) + 1) = ((i + 1 : Nat) : Int) := by rw [wrap_id (by omega) (by omega)]; omega
      cases g2 : decide ((i : Int) < bg.length)
      rotate_left
      · have hil : i < bg.length := by have := of_decide_eq_true g2; omega
        have hii : ((i : Int) < (bg.length : Int)) = True := eq_true (by omega)
        have hbi : bg[i]? = some bg[i] := List.getElem?_eq_getElem hil
        have tk : bg.take (i + 1) = bg.take i ++ [bg[i]] := List.take_succ_eq_append_getElem hil
        have hc : (bg.take i).count (j : Int) ≤ i := Nat.le_trans List.count_le_length (by rw [List.length_take]; omega)
        rw [tk, List.count_append]
        generalize bg[i] = b at *
        generalize (bg.take i).count (j : Int) = c at *
        have hwc : IntKind.i64.wrap ((c : Int) + 1) = ((c + 1 : Nat) : Int) := by rw [wrap_id (by omega) (by omega)]; omega
        unfold rowR rowI su5
        cases hb : b == (j : Int)
        · have e0 : c + [b].count (j : Int) = c := by
            rw [List.count_eq_zero (l := [b]).2 (by rw [List.mem_singleton]; intro e; rw [e] at hb; simp at hb)]; rfl
          rw [e0]
          simp only [go_sem, Nat.reduceEqDiff, Nat.reduceAdd, Nat.reduceSub, Nat.reduceMul, Nat.reduceLT, Nat.reduceLeDiff, Nat.reduceMod, Nat.reduceDiv, Int.reduceToNat, Int.reduceLT, Int.reduceLE, Bool.not_true, Bool.not_false, reduceIte, Int.reduceEq, Int.reduceBEq, Int.reduceBNe, Int.reduceGT, Int.reduceGE, Int.reduceNeg, Int.reduceAdd, Int.reduceSub, Nat.reduceBEq, decide_true, decide_false, undef, beq_self_eq_true, bne_self_eq_false, Bool.and_true, Bool.true_and, Bool.and_false, Bool.false_and, Bool.or_true, Bool.true_or, Bool.or_false, Bool.false_or, List.length_map, g2, hi0, hii, List.getElem?_map, hbi, Option.map_some, hb, hwi]
          exact ⟨hil, _, Sub.gc [0, 1, 2] [12, 1, 2, 3, 4, 9, 10, 11] rfl rfl, St.gc_mk rfl (by unfold σgc; simp only [List.map_cons, List.map_nil, List.getD_cons_zero, List.getD_cons_succ, AO.gc, gc_row]; rfl) rfl rfl⟩
        · have e0 : c + [b].count (j : Int) = c + 1 := by
            rw [beq_iff_eq] at hb
            rw [hb, List.count_singleton_self]
          rw [e0]
          simp only [go_sem, Nat.reduceEqDiff, Nat.reduceAdd, Nat.reduceSub, Nat.reduceMul, Nat.reduceLT, Nat.reduceLeDiff, Nat.reduceMod, Nat.reduceDiv, Int.reduceToNat, Int.reduceLT, Int.reduceLE, Bool.not_true, Bool.not_false, reduceIte, Int.reduceEq, Int.reduceBEq, Int.reduceBNe, Int.reduceGT, Int.reduceGE, Int.reduceNeg, Int.reduceAdd, Int.reduceSub, Nat.reduceBEq, decide_true, decide_false, undef, beq_self_eq_true, bne_self_eq_false, Bool.and_true, Bool.true_and, Bool.and_false, Bool.false_and, Bool.or_true, Bool.true_or, Bool.or_false, Bool.false_or, List.length_map, g2, hi0, hii, List.getElem?_map, hbi, Option.map_some, hb, hwi, hwc]
          exact ⟨hil, _, Sub.gc [0, 1, 2] [12, 1, 2, 3, 4, 9, 10, 11] rfl rfl, St.gc_mk rfl (by unfold σgc; simp only [List.map_cons, List.map_nil, List.getD_cons_zero, List.getD_cons_succ, AO.gc, gc_row]; rfl) rfl rfl⟩
      have hie : i = bg.length := by have := of_decide_eq_false g2; omega
      rw [hie] at g2 ⊢
      rw [List.take_length]
      unfold rowR rowI su5
      cases g3 : decide ((bg.count (j : Int) : Int) < many)
      · have e0 : (P ++ if (false = true) then R2 else []) = P := by simp
        rw [e0]
        simp only [go_sem, Nat.reduceEqDiff, Nat.reduceAdd, Nat.reduceSub, Nat.reduceMul, Nat.reduceLT, Nat.reduceLeDiff, Nat.reduceMod, Nat.reduceDiv, Int.reduceToNat, Int.reduceLT, Int.reduceLE, Bool.not_true, Bool.not_false, reduceIte, Int.reduceEq, Int.reduceBEq, Int.reduceBNe, Int.reduceGT, Int.reduceGE, Int.reduceNeg, Int.reduceAdd, Int.reduceSub, Nat.reduceBEq, decide_true, decide_false, undef, beq_self_eq_true, bne_self_eq_false, Bool.and_true, Bool.true_and, Bool.and_false, Bool.false_and, Bool.or_true, Bool.true_or, Bool.or_false, Bool.false_or, List.length_map, g2, g3, hwj]
        exact ⟨hjlt, _, Sub.gc [0, 1, 2] [10, 1, 2, 3, 4, 9] rfl rfl, St.gc_mk rfl (by unfold σgc; simp only [List.map_cons, List.map_nil, List.getD_cons_zero, List.getD_cons_succ, AO.gc, gc_row]; rfl) rfl rfl⟩
      have e0 : (P ++ if (true = true) then R2 else []) = P ++ R2 := by simp
      rw [e0]
      simp only [go_sem, Nat.reduceEqDiff, Nat.reduceAdd, Nat.reduceSub, Nat.reduceMul, Nat.reduceLT, Nat.reduceLeDiff, Nat.reduceMod, Nat.reduceDiv, Int.reduceToNat, Int.reduceLT, Int.reduceLE, Bool.not_true, Bool.not_false, reduceIte, Int.reduceEq, Int.reduceBEq, Int.reduceBNe, Int.reduceGT, Int.reduceGE, Int.reduceNeg, Int.reduceAdd, Int.reduceSub, Nat.reduceBEq, decide_true, decide_false, undef, beq_self_eq_true, bne_self_eq_false, Bool.and_true, Bool.true_and, Bool.and_false, Bool.false_and, Bool.or_true, Bool.true_or, Bool.or_false, Bool.false_or, List.length_map, g2, g3, y1, y2, y3, y4, hin', hil]
      repeat' (first | refine AndL.mk ?_ ?_ | simp only [go_sem, Nat.reduceEqDiff, Nat.reduceAdd, Nat.reduceSub, Nat.reduceMul, Nat.reduceLT, Nat.reduceLeDiff, Nat.reduceMod, Nat.reduceDiv, Int.reduceToNat, Int.reduceLT, Int.reduceLE, Bool.not_true, Bool.not_false, reduceIte, Int.reduceEq, Int.reduceBEq, Int.reduceBNe, Int.reduceGT, Int.reduceGE, Int.reduceNeg, Int.reduceAdd, Int.reduceSub, Nat.reduceBEq, decide_true, decide_false, undef, beq_self_eq_true, bne_self_eq_false, Bool.and_true, Bool.true_and, Bool.and_false, Bool.false_and, Bool.or_true, Bool.true_or, Bool.or_false, Bool.false_or, List.length_map, y1, y2, y3, y4, hin', hil])
      all_goals
        first | refine hap (p := 3) (q := 0) rfl rfl (by decide) ?_ | refine hap (p := 4) (q := 0) rfl rfl (by decide) ?_
        intro xs hx
        have hxl : xs.length = (P ++ R2).length := by
          rcases hx with rfl | ⟨h0, rfl⟩
          · simp
          · rw [hr00 h0]; simp
        simp only [go_sem, Nat.reduceEqDiff, Nat.reduceAdd, Nat.reduceSub, Nat.reduceMul, Nat.reduceLT, Nat.reduceLeDiff, Nat.reduceMod, Nat.reduceDiv, Int.reduceToNat, Int.reduceLT, Int.reduceLE, Bool.not_true, Bool.not_false, reduceIte, Int.reduceEq, Int.reduceBEq, Int.reduceBNe, Int.reduceGT, Int.reduceGE, Int.reduceNeg, Int.reduceAdd, Int.reduceSub, Nat.reduceBEq, decide_true, decide_false, undef, beq_self_eq_true, bne_self_eq_false, Bool.and_true, Bool.true_and, Bool.and_false, Bool.false_and, Bool.or_true, Bool.true_or, Bool.or_false, Bool.false_or, List.set_cons_zero, hwj, hxl]
        refine ⟨hjlt, _, Sub.gc [0, 1, 2] [10, 1, 2, 3, 4, 9] rfl rfl, St.gc_mk rfl ?_ rfl rfl⟩
        unfold σgc
        simp only [List.map_cons, List.map_nil, List.getD_cons_zero, List.getD_cons_succ, AO.gc, gc_row]
        rw [gc_rowR (ys := (P ++ R2).map tI') (by
          rcases hx with rfl | ⟨h0, rfl⟩
          · exact .inl rfl
          · refine .inr ⟨P.map tI', _, bg ++ [(j : Int)], by rw [hil], by rfl, rfl, ?_⟩
            rw [hr00 h0]
            simp)]
        rfl
end Go.Proofs.YtmahocdmkpigjaaDoor
