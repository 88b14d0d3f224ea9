/- Proved here: laws that the statements need (SuX1, SuC310, SuC2t). No conditions but those that each law states. -/
import Derived.Test.YtmahocdmkpigjaaDoorSD
import Derived.Test.YtmahocdmkpigjaaDoorFL
import Derived.Test.YtmahocdmkpigjaaDoorProg

set_option linter.unusedSimpArgs false
set_option linter.unusedVariables false

/- What the closure of Save finds: the first list that fits. Plain laws. -/
namespace Go.Proofs.YtmahocdmkpigjaaDoor
open Go Go.Ab

/-- A list fits: huts that can float and are not left have an hour in time that is not full, the others none. -/
def Feas (can : Nat) (fs : List Int) (many : Int) (left : Nat) : Nat → Nat → List Nat → List Int → Prop
  | 0, _, _, q => q = []
  | l + 1, hut, full, q => ∃ x r, q = x :: r ∧ if (ndiff can left).testBit hut then ∃ h : Nat, x = h ∧ h < (fs.getD hut 0).toNat ∧ ((full.getD h 0 : Nat) : Int) ≠ many ∧ Feas can fs many left l (hut + 1) (full.set h (full.getD h 0 + 1)) r
      else x = -1 ∧ Feas can fs many left l (hut + 1) full r
/-- One list is another one, or comes before it. -/
def lexle : List Int → List Int → Prop
  | x :: a, y :: b => x < y ∨ (x = y ∧ lexle a b)
  | [], [] => True
  | _, _ => False
theorem findSome_range_spec {α : Type} {f : Nat → Option α} {N : Nat} {x : α} (h : (List.range N).findSome? f = some x) : ∃ j < N, f j = some x ∧ ∀ i < j, f i = none := by
  induction N with
  | zero => simp at h
  | succ N ih =>
    rw [List.range_succ, List.findSome?_append] at h
    cases hc : (List.range N).findSome? f with
    | some y =>
      rw [hc] at h
      obtain ⟨j, hj, h1, h2⟩ := ih (by rw [hc]; exact h)
      exact ⟨j, by omega, h1, h2⟩
    | none =>
      rw [hc, Option.none_or, List.findSome?_cons] at h
      refine ⟨N, by omega, ?_, fun i hi => ?_⟩
      · cases hf : f N with
        | none => rw [hf] at h; simp at h
        | some y => rw [hf] at h; exact h
      · exact List.findSome?_eq_none_iff.1 hc i (List.mem_range.2 hi)
theorem solve_feas (can : Nat) (fs : List Int) (many : Int) (left : Nat) : ∀ (l hut : Nat) (full : List Nat) {q : List Int}, solve can fs many left l hut full = some q → Feas can fs many left l hut full q
  | 0, _, _, q, h => by cases h; rfl
  | l + 1, hut, full, q, h => by
    unfold solve at h
    unfold Feas
    split at h
    · rename_i hb
      obtain ⟨j, hj, h1, _⟩ := findSome_range_spec h
      split at h1
      · cases h1
      · rename_i hm
        obtain ⟨r, hr, rfl⟩ := Option.map_eq_some_iff.1 h1
        exact ⟨j, r, rfl, by rw [if_pos hb]; exact ⟨j, rfl, hj, hm, solve_feas can fs many left l _ _ hr⟩⟩
    · rename_i hb
      obtain ⟨r, hr, rfl⟩ := Option.map_eq_some_iff.1 h
      exact ⟨-1, r, rfl, by rw [if_neg hb]; exact ⟨rfl, solve_feas can fs many left l _ _ hr⟩⟩
theorem solve_best (can : Nat) (fs : List Int) (many : Int) (left : Nat) : ∀ (l hut : Nat) (full : List Nat) {p : List Int}, Feas can fs many left l hut full p → ∃ q, solve can fs many left l hut full = some q ∧ lexle q p
  | 0, _, _, p, h => by cases h; exact ⟨[], rfl, trivial⟩
  | l + 1, hut, full, p, h => by
    unfold Feas at h
    obtain ⟨x, r, rfl, h⟩ := h
    unfold solve
    by_cases hb : (ndiff can left).testBit hut = true
    · rw [if_pos hb] at h ⊢
      obtain ⟨j, rfl, hj, hm, hf⟩ := h
      obtain ⟨q, hq, hle⟩ := solve_best can fs many left l _ _ hf
      have hsome : ((List.range (fs.getD hut 0).toNat).findSome? fun h => if ((full.getD h 0 : Nat) : Int) = many then none else (solve can fs many left l (hut + 1) (full.set h (full.getD h 0 + 1))).map fun q => (h : Int) :: q).isSome = true := by
        rw [List.findSome?_isSome_iff]
        exact ⟨j, List.mem_range.2 hj, by rw [if_neg hm, hq]; rfl⟩
      obtain ⟨y, hy⟩ := Option.isSome_iff_exists.1 hsome
      refine ⟨y, hy, ?_⟩
      obtain ⟨i, hi, h1, h2⟩ := findSome_range_spec hy
      have hij : i ≤ j := by
        apply Classical.byContradiction
        intro c
        have := h2 j (by omega)
        rw [if_neg hm, hq] at this
        cases this
      split at h1
      · cases h1
      · obtain ⟨q', hq', rfl⟩ := Option.map_eq_some_iff.1 h1
        by_cases e : i = j
        · subst e
          rw [hq] at hq'
          cases hq'
          exact .inr ⟨rfl, hle⟩
        · exact .inl (by omega)
    · rw [if_neg hb] at h ⊢
      obtain ⟨rfl, hf⟩ := h
      obtain ⟨q, hq, hle⟩ := solve_best can fs many left l _ _ hf
      exact ⟨-1 :: q, by rw [hq]; rfl, .inr ⟨rfl, hle⟩⟩
end Go.Proofs.YtmahocdmkpigjaaDoor

/- Compiled code of functions, printed by program; each is checked to be the program's. No conditions. -/
namespace Go.Proofs.YtmahocdmkpigjaaDoor
open Go Go.Ab
/-- dipworks/dipworkslaw04.SurfSave -/
def c10 : AC :=
 .seq (.reg [⟨(some 3), none, .box (.tmp 0)⟩,
 ⟨(some 6), none, .mov (.lit (.bool false))⟩])
 (.seq (.seq (.reg [⟨(some 21), none, .load true 5 (.tmp 3)⟩,
 ⟨(some 22), none, .call (.fn 33) [(.tmp 21)]⟩,
 ⟨(some 23), none, .un .not (.tmp 22)⟩])
 (.cond (.tmp 23) (.seq (.reg [⟨(some 24), none, .call (.fn 14) []⟩,
 ⟨(some 6), none, .mov (.tmp 24)⟩])
 (.ret))
 (.skip)))
 (.seq (.reg [⟨(some 25), none, .mov (.tmp 1)⟩,
 ⟨(some 26), none, .conv .i64 (.tmp 25)⟩,
 ⟨(some 27), none, .bin .rem (.tmp 26) (.lit (.int .i64 6))⟩,
 ⟨(some 7), none, .alloc [(.int .i64 0)]⟩,
 ⟨none, none, .store 1 (.tmp 7) (.tmp 27)⟩])
 (.seq (.reg [⟨(some 29), none, .load true 5 (.tmp 3)⟩,
 ⟨(some 30), none, .load false 1 (.tmp 7)⟩,
 ⟨(some 31), none, .call (.fn 30) [(.tmp 29), (.tmp 30)]⟩,
 ⟨(some 28), none, .mov (.tmp 31)⟩,
 ⟨(some 32), none, .ext (.tmp 28) 0⟩,
 ⟨(some 33), none, .ext (.tmp 28) 1⟩,
 ⟨(some 34), none, .ext (.tmp 28) 2⟩,
 ⟨(some 8), none, .mov (.tmp 32)⟩,
 ⟨(some 9), none, .mov (.tmp 33)⟩,
 ⟨(some 10), none, .mov (.tmp 34)⟩])
 (.seq (.seq (.reg [⟨(some 35), none, .mov (.tmp 10)⟩,
 ⟨(some 36), none, .bin .neq (.tmp 35) (.lit (.int .i64 0))⟩,
 ⟨(some 37), none, .mov (.tmp 36)⟩,
 ⟨(some 38), (some (37, false)), .mov (.tmp 8)⟩,
 ⟨(some 39), (some (37, false)), .len (.tmp 38)⟩,
 ⟨(some 40), (some (37, false)), .faddr 4 (.tmp 3)⟩,
 ⟨(some 41), (some (37, false)), .load false 1 (.tmp 40)⟩,
 ⟨(some 42), (some (37, false)), .len (.tmp 41)⟩,
 ⟨(some 43), (some (37, false)), .bin .neq (.tmp 39) (.tmp 42)⟩,
 ⟨(some 44), none, .pick (.tmp 37) (.lit (.bool true)) (.tmp 43)⟩])
 (.cond (.tmp 44) (.seq (.reg [⟨(some 6), none, .mov (.lit (.bool false))⟩])
 (.ret))
 (.skip)))
 (.seq (.seq (.gcp)
 (.reg [⟨(some 45), none, .mkfn (.func 38) [] [(.tmp 3), (.tmp 7)]⟩,
 ⟨(some 11), none, .mov (.tmp 45)⟩]))
 (.seq (.reg [⟨(some 47), none, .mov (.tmp 11)⟩,
 ⟨(some 48), none, .mov (.tmp 8)⟩,
 ⟨(some 49), none, .call (.tmp 47) [(.tmp 48)]⟩,
 ⟨(some 46), none, .mov (.tmp 49)⟩,
 ⟨(some 50), none, .ext (.tmp 46) 0⟩,
 ⟨(some 51), none, .ext (.tmp 46) 1⟩,
 ⟨(some 12), none, .mov (.tmp 50)⟩,
 ⟨(some 13), none, .mov (.tmp 51)⟩])
 (.seq (.seq (.reg [⟨(some 52), none, .mov (.tmp 13)⟩,
 ⟨(some 53), none, .un .not (.tmp 52)⟩,
 ⟨(some 54), none, .mov (.tmp 53)⟩,
 ⟨(some 55), (some (54, false)), .mov (.tmp 12)⟩,
 ⟨(some 56), (some (54, false)), .mov (.tmp 9)⟩,
 ⟨(some 57), (some (54, false)), .bin .neq (.tmp 55) (.tmp 56)⟩,
 ⟨(some 58), none, .pick (.tmp 54) (.lit (.bool true)) (.tmp 57)⟩])
 (.cond (.tmp 58) (.seq (.reg [⟨(some 6), none, .mov (.lit (.bool false))⟩])
 (.ret))
 (.skip)))
 (.seq (.reg [⟨(some 14), none, .mov (.lit (.slice none 0 0))⟩])
 (.seq (.seq (.reg [⟨(some 59), none, .faddr 4 (.tmp 3)⟩,
 ⟨(some 60), none, .load false 1 (.tmp 59)⟩,
 ⟨(some 61), none, .len (.tmp 60)⟩,
 ⟨(some 62), none, .mov (.lit (.int .i64 0))⟩])
 (.block 0 (.loop (.seq (.reg [⟨(some 63), none, .bin .lss (.tmp 62) (.tmp 61)⟩])
 (.seq (.cond (.tmp 63) (.skip)
 (.exit 0))
 (.seq (.block 1 (.seq (.reg [⟨(some 64), none, .mov (.tmp 62)⟩,
 ⟨(some 15), none, .mov (.tmp 64)⟩])
 (.seq (.reg [⟨(some 16), none, .mov (.lit (.int .i64 (-1)))⟩])
 (.seq (.seq (.reg [⟨(some 65), none, .mov (.tmp 2)⟩,
 ⟨(some 66), none, .len (.tmp 65)⟩,
 ⟨(some 67), none, .bin .gtr (.tmp 66) (.lit (.int .i64 0))⟩])
 (.cond (.tmp 67) (.reg [⟨(some 68), none, .mov (.tmp 2)⟩,
 ⟨(some 69), none, .mov (.tmp 15)⟩,
 ⟨(some 70), none, .mov (.tmp 2)⟩,
 ⟨(some 71), none, .len (.tmp 70)⟩,
 ⟨(some 72), none, .bin .rem (.tmp 69) (.tmp 71)⟩,
 ⟨(some 73), none, .iaddr 1 (.tmp 68) (.tmp 72)⟩,
 ⟨(some 74), none, .load false 1 (.tmp 73)⟩,
 ⟨(some 75), none, .conv .i64 (.tmp 74)⟩,
 ⟨(some 76), none, .bin .rem (.tmp 75) (.lit (.int .i64 9))⟩,
 ⟨(some 77), none, .bin .sub (.tmp 76) (.lit (.int .i64 1))⟩,
 ⟨(some 16), none, .mov (.tmp 77)⟩])
 (.skip)))
 (.reg [⟨(some 78), none, .mov (.tmp 14)⟩,
 ⟨(some 79), none, .mov (.tmp 16)⟩,
 ⟨(some 80), none, .bslice 1 (.int .i64 0) 1 [(0, (.tmp 79))]⟩,
 ⟨(some 81), none, .app 1 8 (.tmp 78) (.tmp 80)⟩,
 ⟨(some 14), none, .mov (.tmp 81)⟩])))))
 (.reg [⟨(some 82), none, .bin .add (.tmp 62) (.lit (.int .i64 1))⟩,
 ⟨(some 62), none, .mov (.tmp 82)⟩])))))))
 (.seq (.reg [⟨(some 84), none, .mov (.tmp 11)⟩,
 ⟨(some 85), none, .mov (.tmp 14)⟩,
 ⟨(some 86), none, .call (.tmp 84) [(.tmp 85)]⟩,
 ⟨(some 83), none, .mov (.tmp 86)⟩,
 ⟨(some 87), none, .ext (.tmp 83) 0⟩,
 ⟨(some 88), none, .ext (.tmp 83) 1⟩,
 ⟨(some 17), none, .mov (.tmp 87)⟩,
 ⟨(some 18), none, .mov (.tmp 88)⟩])
 (.seq (.seq (.reg [⟨(some 89), none, .mov (.tmp 18)⟩,
 ⟨(some 90), none, .un .not (.tmp 89)⟩])
 (.cond (.tmp 90) (.seq (.reg [⟨(some 91), none, .call (.fn 14) []⟩,
 ⟨(some 6), none, .mov (.tmp 91)⟩])
 (.ret))
 (.skip)))
 (.seq (.reg [⟨(some 19), none, .mov (.fn 39)⟩])
 (.seq (.seq (.reg [⟨(some 92), none, .mov (.tmp 19)⟩,
 ⟨(some 93), none, .mov (.tmp 17)⟩,
 ⟨(some 94), none, .call (.tmp 92) [(.tmp 93)]⟩,
 ⟨(some 95), none, .mov (.tmp 19)⟩,
 ⟨(some 96), none, .mov (.tmp 12)⟩,
 ⟨(some 97), none, .call (.tmp 95) [(.tmp 96)]⟩,
 ⟨(some 98), none, .bin .lss (.tmp 94) (.tmp 97)⟩,
 ⟨(some 99), none, .mov (.tmp 98)⟩,
 ⟨(some 100), (some (99, false)), .mov (.tmp 19)⟩,
 ⟨(some 101), (some (99, false)), .mov (.tmp 17)⟩,
 ⟨(some 102), (some (99, false)), .call (.tmp 100) [(.tmp 101)]⟩,
 ⟨(some 103), (some (99, false)), .mov (.tmp 19)⟩,
 ⟨(some 104), (some (99, false)), .mov (.tmp 12)⟩,
 ⟨(some 105), (some (99, false)), .call (.tmp 103) [(.tmp 104)]⟩,
 ⟨(some 106), (some (99, false)), .bin .eql (.tmp 102) (.tmp 105)⟩,
 ⟨(some 107), (some (99, false)), .mov (.tmp 106)⟩,
 ⟨(some 108), (some (107, true)), .mov (.tmp 17)⟩,
 ⟨(some 109), (some (107, true)), .mov (.tmp 12)⟩,
 ⟨(some 110), (some (107, true)), .bin .lss (.tmp 108) (.tmp 109)⟩,
 ⟨(some 111), (some (99, false)), .pick (.tmp 107) (.tmp 110) (.lit (.bool false))⟩,
 ⟨(some 112), none, .pick (.tmp 99) (.lit (.bool true)) (.tmp 111)⟩])
 (.cond (.tmp 112) (.seq (.reg [⟨(some 6), none, .mov (.lit (.bool false))⟩])
 (.ret))
 (.skip)))
 (.seq (.seq (.reg [⟨(some 113), none, .mov (.tmp 8)⟩,
 ⟨(some 114), none, .len (.tmp 113)⟩,
 ⟨(some 115), none, .mov (.lit (.int .i64 0))⟩])
 (.block 2 (.loop (.seq (.reg [⟨(some 116), none, .bin .lss (.tmp 115) (.tmp 114)⟩])
 (.seq (.cond (.tmp 116) (.skip)
 (.exit 2))
 (.seq (.block 3 (.seq (.reg [⟨(some 117), none, .mov (.tmp 115)⟩,
 ⟨(some 20), none, .mov (.tmp 117)⟩])
 (.seq (.draw (.step ⟨(some 118), none, .mov (.tmp 12)⟩ (
 .step ⟨(some 119), none, .mov (.tmp 17)⟩ (
 .step ⟨(some 120), none, .bin .eql (.tmp 118) (.tmp 119)⟩ (
 .step ⟨(some 121), none, .mov (.tmp 120)⟩ (
 .step ⟨(some 122), (some (121, true)), .mov (.tmp 8)⟩ (
 .step ⟨(some 123), (some (121, true)), .mov (.tmp 20)⟩ (
 .step ⟨(some 124), (some (121, true)), .iaddr 1 (.tmp 122) (.tmp 123)⟩ (
 .step ⟨(some 125), (some (121, true)), .load false 1 (.tmp 124)⟩ (
 .step ⟨(some 126), (some (121, true)), .mov (.tmp 14)⟩ (
 .step ⟨(some 127), (some (121, true)), .mov (.tmp 20)⟩ (
 .step ⟨(some 128), (some (121, true)), .iaddr 1 (.tmp 126) (.tmp 127)⟩ (
 .step ⟨(some 129), (some (121, true)), .load false 1 (.tmp 128)⟩ (
 .step ⟨(some 130), (some (121, true)), .bin .neq (.tmp 125) (.tmp 129)⟩ (
 .step ⟨(some 131), none, .pick (.tmp 121) (.tmp 130) (.lit (.bool false))⟩ (
 .done))))))))))))))))
 (.cond (.tmp 131) (.seq (.draw (.step ⟨(some 132), none, .mov (.tmp 8)⟩ (
 .step ⟨(some 133), none, .mov (.tmp 20)⟩ (
 .step ⟨(some 134), none, .iaddr 1 (.tmp 132) (.tmp 133)⟩ (
 .step ⟨(some 135), none, .load false 1 (.tmp 134)⟩ (
 .step ⟨(some 136), none, .mov (.tmp 14)⟩ (
 .step ⟨(some 137), none, .mov (.tmp 20)⟩ (
 .step ⟨(some 138), none, .iaddr 1 (.tmp 136) (.tmp 137)⟩ (
 .step ⟨(some 139), none, .load false 1 (.tmp 138)⟩ (
 .step ⟨(some 140), none, .bin .lss (.tmp 135) (.tmp 139)⟩ (
 .step ⟨(some 141), none, .mov (.tmp 140)⟩ (
 .ev ⟨(some 142), (some (141, true)), .call (.fn 14) []⟩ [⟨(some 139), none, .load false 1 (.tmp 138)⟩, ⟨(some 138), none, .iaddr 1 (.tmp 136) (.tmp 137)⟩, ⟨(some 135), none, .load false 1 (.tmp 134)⟩, ⟨(some 134), none, .iaddr 1 (.tmp 132) (.tmp 133)⟩] (
 .step ⟨(some 143), none, .pick (.tmp 141) (.tmp 142) (.lit (.bool false))⟩ (
 .step ⟨(some 6), none, .mov (.tmp 143)⟩ (
 .done)))
 (.stop)))))))))))))
 (.ret))
 (.skip)))))
 (.reg [⟨(some 144), none, .bin .add (.tmp 115) (.lit (.int .i64 1))⟩,
 ⟨(some 115), none, .mov (.tmp 144)⟩])))))))
 (.seq (.reg [⟨(some 145), none, .call (.fn 14) []⟩,
 ⟨(some 6), none, .mov (.tmp 145)⟩])
 (.ret))))))))))))))))
theorem k10 : FnC Tryd.prog 10 146 [] [7] [.tmp 6] c10 3 := ⟨Tryd.f10, _, Tryd.func10, rfl, by decide, rfl, by decide, by kernel_rfl, by kernel_rfl⟩
/-- dipworks/dipworkslaw04.SurfSave$1 -/
def c38 : AC :=
 .seq (.reg [⟨(some 4), none, .mov (.lit (.int .i64 0))⟩,
 ⟨(some 5), none, .mov (.lit (.bool false))⟩])
 (.seq (.reg [⟨(some 12), none, .mkmap (none, (some .i64))⟩,
 ⟨(some 6), none, .mov (.tmp 12)⟩,
 ⟨(some 7), none, .mov (.lit (.int .i64 0))⟩])
 (.seq (.seq (.reg [⟨(some 13), none, .mov (.tmp 0)⟩,
 ⟨(some 14), none, .len (.tmp 13)⟩,
 ⟨(some 15), none, .mov (.lit (.int .i64 0))⟩])
 (.block 0 (.loop (.seq (.reg [⟨(some 16), none, .bin .lss (.tmp 15) (.tmp 14)⟩])
 (.seq (.cond (.tmp 16) (.skip)
 (.exit 0))
 (.seq (.block 1 (.seq (.reg [⟨(some 17), none, .mov (.tmp 15)⟩,
 ⟨(some 18), none, .iaddr 1 (.tmp 13) (.tmp 15)⟩,
 ⟨(some 19), none, .load false 1 (.tmp 18)⟩,
 ⟨(some 8), none, .mov (.tmp 17)⟩,
 ⟨(some 9), none, .mov (.tmp 19)⟩])
 (.seq (.reg [⟨(some 21), none, .load true 5 (.tmp 1)⟩,
 ⟨(some 22), none, .mov (.tmp 8)⟩,
 ⟨(some 23), none, .call (.fn 23) [(.tmp 21), (.tmp 22)]⟩,
 ⟨(some 20), none, .mov (.tmp 23)⟩,
 ⟨(some 24), none, .ext (.tmp 20) 0⟩,
 ⟨(some 25), none, .ext (.tmp 20) 1⟩,
 ⟨(some 10), none, .mov (.tmp 24)⟩,
 ⟨(some 11), none, .mov (.tmp 25)⟩])
 (.seq (.seq (.reg [⟨(some 26), none, .mov (.tmp 9)⟩,
 ⟨(some 27), none, .bin .lss (.tmp 26) (.lit (.int .i64 0))⟩])
 (.cond (.tmp 27) (.seq (.seq (.reg [⟨(some 28), none, .mov (.tmp 11)⟩,
 ⟨(some 29), none, .bin .eql (.tmp 28) (.lit (.int .i64 0))⟩])
 (.cond (.tmp 29) (.reg [⟨(some 30), none, .mov (.tmp 7)⟩,
 ⟨(some 31), none, .mov (.tmp 8)⟩,
 ⟨(some 32), none, .bin .shl (.lit (.int .i64 1)) (.tmp 31)⟩,
 ⟨(some 33), none, .bin .or (.tmp 30) (.tmp 32)⟩,
 ⟨(some 7), none, .mov (.tmp 33)⟩])
 (.skip)))
 (.seq (.seq (.reg [⟨(some 34), none, .mov (.tmp 9)⟩,
 ⟨(some 35), none, .bin .neq (.tmp 34) (.lit (.int .i64 (-1)))⟩])
 (.cond (.tmp 35) (.seq (.reg [⟨(some 4), none, .mov (.lit (.int .i64 0))⟩,
 ⟨(some 5), none, .mov (.lit (.bool false))⟩])
 (.ret))
 (.skip)))
 (.exit 1)))
 (.skip)))
 (.seq (.reg [⟨(some 36), none, .mov (.tmp 6)⟩,
 ⟨(some 37), none, .mov (.tmp 9)⟩,
 ⟨(some 38), none, .look (none, (some .i64)) (.int .i64 0) false (.tmp 36) (.tmp 37)⟩,
 ⟨(some 39), none, .bin .add (.tmp 38) (.lit (.int .i64 1))⟩,
 ⟨none, none, .mput (none, (some .i64)) (.tmp 36) (.tmp 37) (.tmp 39)⟩])
 (.seq (.reg [⟨(some 40), none, .mov (.tmp 11)⟩,
 ⟨(some 41), none, .bin .neq (.tmp 40) (.lit (.int .i64 0))⟩,
 ⟨(some 42), none, .mov (.tmp 41)⟩,
 ⟨(some 43), (some (42, false)), .mov (.tmp 9)⟩,
 ⟨(some 44), (some (42, false)), .mov (.tmp 10)⟩,
 ⟨(some 45), (some (42, false)), .bin .geq (.tmp 43) (.tmp 44)⟩,
 ⟨(some 46), none, .pick (.tmp 42) (.lit (.bool true)) (.tmp 45)⟩,
 ⟨(some 47), none, .mov (.tmp 46)⟩,
 ⟨(some 48), (some (47, false)), .mov (.tmp 6)⟩,
 ⟨(some 49), (some (47, false)), .mov (.tmp 9)⟩,
 ⟨(some 50), (some (47, false)), .look (none, (some .i64)) (.int .i64 0) false (.tmp 48) (.tmp 49)⟩,
 ⟨(some 51), (some (47, false)), .load false 1 (.tmp 2)⟩,
 ⟨(some 52), (some (47, false)), .bin .gtr (.tmp 50) (.tmp 51)⟩,
 ⟨(some 53), none, .pick (.tmp 47) (.lit (.bool true)) (.tmp 52)⟩])
 (.cond (.tmp 53) (.seq (.reg [⟨(some 4), none, .mov (.lit (.int .i64 0))⟩,
 ⟨(some 5), none, .mov (.lit (.bool false))⟩])
 (.ret))
 (.skip))))))))
 (.reg [⟨(some 54), none, .bin .add (.tmp 15) (.lit (.int .i64 1))⟩,
 ⟨(some 15), none, .mov (.tmp 54)⟩])))))))
 (.seq (.reg [⟨(some 55), none, .mov (.tmp 7)⟩,
 ⟨(some 4), none, .mov (.tmp 55)⟩,
 ⟨(some 5), none, .mov (.lit (.bool true))⟩])
 (.ret))))
theorem k38 : FnC Tryd.prog 38 56 [] [] [.tmp 4, .tmp 5] c38 3 := ⟨Tryd.f38, _, Tryd.func38, rfl, by decide, rfl, by decide, by kernel_rfl, by kernel_rfl⟩
end Go.Proofs.YtmahocdmkpigjaaDoor

/- Compiled code of functions, printed by program; each is checked to be the program's. No conditions. -/
namespace Go.Proofs.YtmahocdmkpigjaaDoor
open Go Go.Ab
/-- dipworks/dipworksref04.Size -/
def c39 : AC :=
 .seq (.reg [⟨(some 2), none, .mov (.lit (.int .i64 0))⟩])
 (.seq (.reg [⟨(some 3), none, .mov (.lit (.int .i64 0))⟩])
 (.seq (.block 0 (.loop (.seq (.seq (.reg [⟨(some 4), none, .mov (.tmp 0)⟩,
 ⟨(some 5), none, .bin .gtr (.tmp 4) (.lit (.int .i64 0))⟩])
 (.cond (.tmp 5) (.skip)
 (.exit 0)))
 (.block 1 (.reg [⟨(some 6), none, .mov (.tmp 3)⟩,
 ⟨(some 7), none, .mov (.tmp 0)⟩,
 ⟨(some 8), none, .bin .rem (.tmp 7) (.lit (.int .i64 2))⟩,
 ⟨(some 9), none, .bin .add (.tmp 6) (.tmp 8)⟩,
 ⟨(some 10), none, .mov (.tmp 0)⟩,
 ⟨(some 11), none, .bin .quo (.tmp 10) (.lit (.int .i64 2))⟩,
 ⟨(some 3), none, .mov (.tmp 9)⟩,
 ⟨(some 0), none, .mov (.tmp 11)⟩])))))
 (.seq (.reg [⟨(some 12), none, .mov (.tmp 3)⟩,
 ⟨(some 2), none, .mov (.tmp 12)⟩])
 (.ret))))
theorem k39 : FnC Tryd.prog 39 13 [] [] [.tmp 2] c39 1 := ⟨Tryd.f39, _, Tryd.func39, rfl, by decide, rfl, by decide, by kernel_rfl, by kernel_rfl⟩
end Go.Proofs.YtmahocdmkpigjaaDoor
