/- Proved here: laws that the statements need (RaC311, RaS3). No conditions but those that each law states. -/
import Derived.Test.YtcpkkjbkbdmopaaFL
import Derived.Test.YtcpkkjbkbdmopaaFP
import Derived.Test.YtcpkkjbkbdmopaaProg
import Derived.Test.YtcpkkjbkbdmopaaDJ

set_option linter.unusedSimpArgs false
set_option linter.unusedVariables false

/- Compiled code of functions, printed by program; each is checked to be the program's. No conditions. -/
namespace Go.Proofs.Ytcpkkjbkbdmopaa
open Go Go.Ab
/-- dipworks/dipworkslaw11.RailOwes -/
def c11 : AC :=
 .seq (.reg [⟨(some 1), none, .box (.tmp 0)⟩,
 ⟨(some 2), none, .mov (.lit (.bool false))⟩])
 (.seq (.seq (.reg [⟨(some 20), none, .load true 10 (.tmp 1)⟩,
 ⟨(some 21), none, .call (.fn 37) [(.tmp 20)]⟩,
 ⟨(some 22), none, .mov (.tmp 21)⟩,
 ⟨(some 23), (some (22, false)), .load true 10 (.tmp 1)⟩,
 ⟨(some 24), (some (22, false)), .call (.fn 12) [(.tmp 23)]⟩,
 ⟨(some 25), (some (22, false)), .un .not (.tmp 24)⟩,
 ⟨(some 26), none, .pick (.tmp 22) (.lit (.bool true)) (.tmp 25)⟩])
 (.cond (.tmp 26) (.seq (.reg [⟨(some 27), none, .call (.fn 24) []⟩,
 ⟨(some 2), none, .mov (.tmp 27)⟩])
 (.ret))
 (.skip)))
 (.seq (.reg [⟨(some 28), none, .faddr 0 (.tmp 1)⟩,
 ⟨(some 29), none, .faddr 0 (.tmp 28)⟩,
 ⟨(some 30), none, .load false 1 (.tmp 29)⟩,
 ⟨(some 31), none, .len (.tmp 30)⟩,
 ⟨(some 3), none, .mov (.tmp 31)⟩])
 (.seq (.reg [⟨(some 33), none, .load true 10 (.tmp 1)⟩,
 ⟨(some 34), none, .mov (.tmp 3)⟩,
 ⟨(some 35), none, .call (.fn 20) [(.tmp 33), (.tmp 34)]⟩,
 ⟨(some 32), none, .mov (.tmp 35)⟩,
 ⟨(some 36), none, .ext (.tmp 32) 0⟩,
 ⟨(some 37), none, .ext (.tmp 32) 1⟩,
 ⟨(some 4), none, .alloc [(.int .i64 0), (.int .i64 0)]⟩,
 ⟨none, none, .store 2 (.tmp 4) (.tmp 36)⟩,
 ⟨(some 5), none, .mov (.tmp 37)⟩])
 (.seq (.reg [⟨(some 39), none, .load true 10 (.tmp 1)⟩,
 ⟨(some 40), none, .call (.fn 20) [(.tmp 39), (.lit (.int .i64 (-1)))]⟩,
 ⟨(some 38), none, .mov (.tmp 40)⟩,
 ⟨(some 41), none, .ext (.tmp 38) 0⟩,
 ⟨(some 42), none, .ext (.tmp 38) 1⟩,
 ⟨(some 6), none, .alloc [(.int .i64 0), (.int .i64 0)]⟩,
 ⟨none, none, .store 2 (.tmp 6) (.tmp 41)⟩,
 ⟨(some 7), none, .mov (.tmp 42)⟩])
 (.seq (.seq (.reg [⟨(some 43), none, .mov (.tmp 5)⟩,
 ⟨(some 44), none, .bin .neq (.tmp 43) (.lit (.int .i64 2))⟩,
 ⟨(some 45), none, .mov (.tmp 44)⟩,
 ⟨(some 46), (some (45, false)), .mov (.tmp 7)⟩,
 ⟨(some 47), (some (45, false)), .mov (.tmp 5)⟩,
 ⟨(some 48), (some (45, false)), .bin .neq (.tmp 46) (.tmp 47)⟩,
 ⟨(some 49), none, .pick (.tmp 45) (.lit (.bool true)) (.tmp 48)⟩])
 (.cond (.tmp 49) (.seq (.reg [⟨(some 2), none, .mov (.lit (.bool false))⟩])
 (.ret))
 (.skip)))
 (.seq (.reg [⟨(some 51), none, .faddr 0 (.tmp 1)⟩,
 ⟨(some 52), none, .load true 3 (.tmp 51)⟩,
 ⟨(some 53), none, .call (.fn 15) [(.tmp 52)]⟩,
 ⟨(some 50), none, .mov (.tmp 53)⟩,
 ⟨(some 54), none, .ext (.tmp 50) 0⟩,
 ⟨(some 55), none, .ext (.tmp 50) 1⟩,
 ⟨(some 8), none, .alloc [(.int .i64 0), (.int .i64 0)]⟩,
 ⟨none, none, .store 2 (.tmp 8) (.tmp 54)⟩,
 ⟨(some 9), none, .mov (.tmp 55)⟩])
 (.seq (.reg [⟨(some 57), none, .faddr 0 (.tmp 1)⟩,
 ⟨(some 58), none, .load true 3 (.tmp 57)⟩,
 ⟨(some 59), none, .call (.fn 42) [(.tmp 58)]⟩,
 ⟨(some 56), none, .mov (.tmp 59)⟩,
 ⟨(some 60), none, .ext (.tmp 56) 0⟩,
 ⟨(some 61), none, .ext (.tmp 56) 1⟩,
 ⟨(some 62), none, .ext (.tmp 56) 2⟩,
 ⟨(some 10), none, .mov (.tmp 60)⟩,
 ⟨(some 11), none, .mov (.tmp 61)⟩,
 ⟨(some 12), none, .mov (.tmp 62)⟩])
 (.seq (.seq (.reg [⟨(some 63), none, .mov (.tmp 9)⟩,
 ⟨(some 64), none, .mov (.tmp 12)⟩,
 ⟨(some 65), none, .bin .neq (.tmp 63) (.tmp 64)⟩])
 (.cond (.tmp 65) (.seq (.reg [⟨(some 2), none, .mov (.lit (.bool false))⟩])
 (.ret))
 (.skip)))
 (.seq (.reg [⟨(some 13), none, .mov (.lit (.int .i64 0))⟩,
 ⟨(some 14), none, .mov (.lit (.int .i64 0))⟩])
 (.seq (.seq (.reg [⟨(some 66), none, .mov (.tmp 3)⟩,
 ⟨(some 67), none, .mov (.lit (.int .i64 0))⟩])
 (.block 0 (.loop (.seq (.reg [⟨(some 68), none, .bin .lss (.tmp 67) (.tmp 66)⟩])
 (.seq (.cond (.tmp 68) (.skip)
 (.exit 0))
 (.seq (.block 1 (.seq (.reg [⟨(some 69), none, .mov (.tmp 67)⟩,
 ⟨(some 15), none, .mov (.tmp 69)⟩])
 (.seq (.reg [⟨(some 71), none, .load true 10 (.tmp 1)⟩,
 ⟨(some 72), none, .mov (.tmp 15)⟩,
 ⟨(some 73), none, .call (.fn 20) [(.tmp 71), (.tmp 72)]⟩,
 ⟨(some 70), none, .mov (.tmp 73)⟩,
 ⟨(some 74), none, .ext (.tmp 70) 0⟩,
 ⟨(some 75), none, .ext (.tmp 70) 1⟩,
 ⟨(some 16), none, .alloc [(.int .i64 0), (.int .i64 0)]⟩,
 ⟨none, none, .store 2 (.tmp 16) (.tmp 74)⟩,
 ⟨(some 17), none, .mov (.tmp 75)⟩])
 (.seq (.reg [⟨(some 77), none, .faddr 0 (.tmp 1)⟩,
 ⟨(some 78), none, .load true 3 (.tmp 77)⟩,
 ⟨(some 79), none, .mov (.tmp 15)⟩,
 ⟨(some 80), none, .call (.fn 16) [(.tmp 78), (.tmp 79)]⟩,
 ⟨(some 76), none, .mov (.tmp 80)⟩,
 ⟨(some 81), none, .ext (.tmp 76) 0⟩,
 ⟨(some 82), none, .ext (.tmp 76) 1⟩,
 ⟨(some 18), none, .alloc [(.int .i64 0), (.int .i64 0)]⟩,
 ⟨none, none, .store 2 (.tmp 18) (.tmp 81)⟩,
 ⟨(some 19), none, .mov (.tmp 82)⟩])
 (.seq (.seq (.draw (.step ⟨(some 83), none, .mov (.tmp 17)⟩ (
 .step ⟨(some 84), none, .mov (.tmp 19)⟩ (
 .step ⟨(some 85), none, .bin .neq (.tmp 83) (.tmp 84)⟩ (
 .step ⟨(some 86), none, .mov (.tmp 85)⟩ (
 .step ⟨(some 87), (some (86, false)), .mov (.tmp 19)⟩ (
 .step ⟨(some 88), (some (86, false)), .mov (.tmp 9)⟩ (
 .step ⟨(some 89), (some (86, false)), .bin .neq (.tmp 87) (.tmp 88)⟩ (
 .step ⟨(some 90), none, .pick (.tmp 86) (.lit (.bool true)) (.tmp 89)⟩ (
 .step ⟨(some 91), none, .mov (.tmp 90)⟩ (
 .step ⟨(some 92), (some (91, false)), .mov (.tmp 17)⟩ (
 .step ⟨(some 93), (some (91, false)), .bin .neq (.tmp 92) (.lit (.int .i64 0))⟩ (
 .step ⟨(some 94), (some (91, false)), .mov (.tmp 93)⟩ (
 .step ⟨(some 95), (some (94, true)), .load true 2 (.tmp 16)⟩ (
 .step ⟨(some 96), (some (94, true)), .build [(.int .i64 0), (.int .i64 0)] []⟩ (
 .step ⟨(some 97), (some (94, true)), .eqs true [(some .i64), (some .i64)] (.tmp 95) (.tmp 96)⟩ (
 .step ⟨(some 98), (some (91, false)), .pick (.tmp 94) (.tmp 97) (.lit (.bool false))⟩ (
 .step ⟨(some 99), none, .pick (.tmp 91) (.lit (.bool true)) (.tmp 98)⟩ (
 .step ⟨(some 100), none, .mov (.tmp 99)⟩ (
 .step ⟨(some 101), (some (100, false)), .mov (.tmp 17)⟩ (
 .step ⟨(some 102), (some (100, false)), .bin .eql (.tmp 101) (.lit (.int .i64 0))⟩ (
 .step ⟨(some 103), (some (100, false)), .mov (.tmp 102)⟩ (
 .step ⟨(some 104), (some (103, true)), .load true 2 (.tmp 16)⟩ (
 .step ⟨(some 105), (some (103, true)), .faddr 9 (.tmp 1)⟩ (
 .step ⟨(some 106), (some (103, true)), .load false 1 (.tmp 105)⟩ (
 .step ⟨(some 107), (some (103, true)), .faddr 0 (.tmp 18)⟩ (
 .step ⟨(some 108), (some (103, true)), .load false 1 (.tmp 107)⟩ (
 .step ⟨(some 109), (some (103, true)), .bin .mul (.tmp 106) (.tmp 108)⟩ (
 .step ⟨(some 110), (some (103, true)), .faddr 9 (.tmp 1)⟩ (
 .step ⟨(some 111), (some (103, true)), .load false 1 (.tmp 110)⟩ (
 .step ⟨(some 112), (some (103, true)), .faddr 1 (.tmp 18)⟩ (
 .step ⟨(some 113), (some (103, true)), .load false 1 (.tmp 112)⟩ (
 .step ⟨(some 114), (some (103, true)), .bin .mul (.tmp 111) (.tmp 113)⟩ (
 .ev ⟨(some 115), (some (103, true)), .call (.fn 36) [(.tmp 109), (.tmp 114)]⟩ [⟨(some 113), (some (103, true)), .load false 1 (.tmp 112)⟩, ⟨(some 112), (some (103, true)), .faddr 1 (.tmp 18)⟩, ⟨(some 111), (some (103, true)), .load false 1 (.tmp 110)⟩, ⟨(some 110), (some (103, true)), .faddr 9 (.tmp 1)⟩, ⟨(some 108), (some (103, true)), .load false 1 (.tmp 107)⟩, ⟨(some 107), (some (103, true)), .faddr 0 (.tmp 18)⟩, ⟨(some 106), (some (103, true)), .load false 1 (.tmp 105)⟩, ⟨(some 105), (some (103, true)), .faddr 9 (.tmp 1)⟩, ⟨(some 104), (some (103, true)), .load true 2 (.tmp 16)⟩, ⟨(some 97), (some (94, true)), .eqs true [(some .i64), (some .i64)] (.tmp 95) (.tmp 96)⟩, ⟨(some 95), (some (94, true)), .load true 2 (.tmp 16)⟩] (
 .step ⟨(some 116), (some (103, true)), .eqs true [(some .i64), (some .i64)] (.tmp 104) (.tmp 115)⟩ (
 .step ⟨(some 117), (some (103, true)), .mov (.tmp 116)⟩ (
 .step ⟨(some 118), (some (117, false)), .mov (.tmp 11)⟩ (
 .step ⟨(some 119), (some (117, false)), .mov (.tmp 15)⟩ (
 .step ⟨(some 120), (some (117, false)), .bin .shr (.tmp 118) (.tmp 119)⟩ (
 .step ⟨(some 121), (some (117, false)), .bin .and (.tmp 120) (.lit (.int .i64 1))⟩ (
 .step ⟨(some 122), (some (117, false)), .bin .eql (.tmp 121) (.lit (.int .i64 0))⟩ (
 .step ⟨(some 123), (some (117, false)), .mov (.tmp 122)⟩ (
 .step ⟨(some 124), (some (123, true)), .faddr 1 (.tmp 16)⟩ (
 .step ⟨(some 125), (some (123, true)), .load false 1 (.tmp 124)⟩ (
 .step ⟨(some 126), (some (123, true)), .bin .neq (.tmp 125) (.lit (.int .i64 0))⟩ (
 .step ⟨(some 127), (some (117, false)), .pick (.tmp 123) (.tmp 126) (.lit (.bool false))⟩ (
 .step ⟨(some 128), (some (103, true)), .pick (.tmp 117) (.lit (.bool true)) (.tmp 127)⟩ (
 .step ⟨(some 129), (some (100, false)), .pick (.tmp 103) (.tmp 128) (.lit (.bool false))⟩ (
 .step ⟨(some 130), none, .pick (.tmp 100) (.lit (.bool true)) (.tmp 129)⟩ (
 .done))))))))))))))))
 (.stop)))))))))))))))))))))))))))))))))))
 (.cond (.tmp 130) (.seq (.reg [⟨(some 2), none, .mov (.lit (.bool false))⟩])
 (.ret))
 (.skip)))
 (.draw (.step ⟨(some 131), none, .mov (.tmp 13)⟩ (
 .step ⟨(some 132), none, .faddr 0 (.tmp 16)⟩ (
 .step ⟨(some 133), none, .load false 1 (.tmp 132)⟩ (
 .step ⟨(some 134), none, .bin .add (.tmp 131) (.tmp 133)⟩ (
 .step ⟨(some 135), none, .mov (.tmp 14)⟩ (
 .step ⟨(some 136), none, .faddr 1 (.tmp 16)⟩ (
 .step ⟨(some 137), none, .load false 1 (.tmp 136)⟩ (
 .step ⟨(some 138), none, .bin .add (.tmp 135) (.tmp 137)⟩ (
 .step ⟨(some 13), none, .mov (.tmp 134)⟩ (
 .step ⟨(some 14), none, .mov (.tmp 138)⟩ (
 .done)))))))))))))))))
 (.reg [⟨(some 139), none, .bin .add (.tmp 67) (.lit (.int .i64 1))⟩,
 ⟨(some 67), none, .mov (.tmp 139)⟩])))))))
 (.seq (.reg [⟨(some 140), none, .mov (.tmp 9)⟩,
 ⟨(some 141), none, .bin .neq (.tmp 140) (.lit (.int .i64 0))⟩,
 ⟨(some 142), none, .mov (.tmp 141)⟩,
 ⟨(some 143), (some (142, false)), .mov (.tmp 13)⟩,
 ⟨(some 144), (some (142, false)), .faddr 9 (.tmp 1)⟩,
 ⟨(some 145), (some (142, false)), .load false 1 (.tmp 144)⟩,
 ⟨(some 146), (some (142, false)), .faddr 0 (.tmp 8)⟩,
 ⟨(some 147), (some (142, false)), .load false 1 (.tmp 146)⟩,
 ⟨(some 148), (some (142, false)), .bin .mul (.tmp 145) (.tmp 147)⟩,
 ⟨(some 149), (some (142, false)), .bin .leq (.tmp 143) (.tmp 148)⟩,
 ⟨(some 150), (some (142, false)), .mov (.tmp 149)⟩,
 ⟨(some 151), (some (150, true)), .mov (.tmp 14)⟩,
 ⟨(some 152), (some (150, true)), .faddr 9 (.tmp 1)⟩,
 ⟨(some 153), (some (150, true)), .load false 1 (.tmp 152)⟩,
 ⟨(some 154), (some (150, true)), .faddr 1 (.tmp 8)⟩,
 ⟨(some 155), (some (150, true)), .load false 1 (.tmp 154)⟩,
 ⟨(some 156), (some (150, true)), .bin .mul (.tmp 153) (.tmp 155)⟩,
 ⟨(some 157), (some (150, true)), .bin .geq (.tmp 151) (.tmp 156)⟩,
 ⟨(some 158), (some (142, false)), .pick (.tmp 150) (.tmp 157) (.lit (.bool false))⟩,
 ⟨(some 159), none, .pick (.tmp 142) (.lit (.bool true)) (.tmp 158)⟩,
 ⟨(some 160), none, .mov (.tmp 159)⟩,
 ⟨(some 161), (some (160, true)), .faddr 0 (.tmp 1)⟩,
 ⟨(some 162), (some (160, true)), .load true 3 (.tmp 161)⟩,
 ⟨(some 163), (some (160, true)), .call (.fn 19) [(.tmp 162)]⟩,
 ⟨(some 164), none, .pick (.tmp 160) (.tmp 163) (.lit (.bool false))⟩,
 ⟨(some 165), none, .mov (.tmp 164)⟩,
 ⟨(some 166), (some (165, true)), .call (.fn 24) []⟩,
 ⟨(some 167), none, .pick (.tmp 165) (.tmp 166) (.lit (.bool false))⟩,
 ⟨(some 2), none, .mov (.tmp 167)⟩])
 (.ret))))))))))))
theorem k11 : FnC Try.prog 11 168 [] [] [.tmp 2] c11 1 := ⟨Try.f11, _, Try.func11, rfl, by decide, rfl, by decide, by kernel_rfl, by kernel_rfl⟩
end Go.Proofs.Ytcpkkjbkbdmopaa

/- RailOwes: what is owed is the price for each towel that layer 6 tells. -/
namespace Go.Proofs.Ytcpkkjbkbdmopaa
open Go Go.Ab

theorem testBit_maskOf (p : Nat → Bool) : ∀ k i, (maskOf p k).testBit i = (decide (i < k) && p i)
  | 0, i => by simp [maskOf]
  | k + 1, i => by
    have ih := testBit_maskOf p k i
    simp only [maskOf]
    by_cases hik : i = k
    · subst hik
      have hlt := Nat.testBit_lt_two_pow (maskOf_lt p i)
      cases hp : p i
      · simp [hlt]
      · simp [hlt, Nat.testBit_two_pow_self]
    · have h2 : Nat.testBit (2 ^ k) i = false := Nat.testBit_two_pow_of_ne (by omega)
      have h3 : decide (i < k + 1) = decide (i < k) := by
        have : (i < k + 1) = (i < k) := by apply propext; omega
        simp only [this]
      rw [h3, ← ih]
      cases p k
      · simp
      · simp [h2]

def sumK (f : Nat → Int) (n : Nat) : Int := ((List.range n).map f).sum
theorem sumK_succ (f : Nat → Int) (n : Nat) : sumK f (n + 1) = sumK f n + f n := by
  unfold sumK
  rw [List.range_succ, List.map_append, List.sum_append]; simp
theorem sumK_mono {f g : Nat → Int} : ∀ {n : Nat}, (∀ i, i < n → f i ≤ g i) → sumK f n ≤ sumK g n
  | 0, _ => by simp [sumK]
  | n + 1, h => by
    have ih := sumK_mono (n := n) fun i hi => h i (by omega)
    have := h n (by omega)
    rw [sumK_succ, sumK_succ]; omega
theorem sumK_mul (f : Nat → Int) (p : Int) : ∀ n, sumK (fun i => f i * p) n = p * sumK f n
  | 0 => by simp [sumK]
  | n + 1 => by rw [sumK_succ, sumK_succ, sumK_mul f p n, Int.mul_add, Int.mul_comm (f n)]
theorem sumK_bd {f : Nat → Int} {b : Int} : ∀ {n : Nat}, (∀ i, i < n → 0 ≤ f i ∧ f i ≤ b) → 0 ≤ sumK f n ∧ sumK f n ≤ b * n
  | 0, _ => by simp [sumK]
  | n + 1, h => by
    have ih := sumK_bd (n := n) fun i hi => h i (by omega)
    have := h n (by omega)
    rw [sumK_succ]
    have e : b * ((n + 1 : Nat) : Int) = b * n + b := by rw [Int.natCast_add, Int.mul_add]; simp
    rw [e]
    omega
theorem sumK_getD : ∀ (l : List Int), sumK (fun i => l.getD i 0) l.length = l.sum := by
  intro l
  have key : ∀ k, k ≤ l.length → sumK (fun i => l.getD i 0) k = (l.take k).sum := by
    intro k
    induction k with
    | zero => intro _; simp [sumK]
    | succ k ih =>
      intro hk
      rw [sumK_succ, ih (by omega), List.take_succ_eq_append_getElem (by omega), List.sum_append, List.getD_eq_getElem?_getD, List.getElem?_eq_getElem (by omega)]
      simp
  rw [key _ (Nat.le_refl _), List.take_length]

/-- All that is kept, by bathers. -/
theorem kept_sum {t : Tw} (ht : t.OK) (hT : isT t = true) : sumK (fun i => (keptOf t i).1) t.bs.length ≤ (specAll t).1.1 ∧ (specAll t).1.2 ≤ sumK (fun i => (keptOf t i).2) t.bs.length := by
  have hne : (docA t).isEmpty = false := by have := isT_eq ht; rw [hT] at this; simpa using this.symm
  have hD : docA t ≠ [] := by intro h; rw [h] at hne; simp at hne
  have hok := (t.ok_iff).2 ht
  have hall : (specAll t).1 = hullD ((docA t).map fun l => l.sum) := by
    rw [All_eq]
    simp only [docAll, hok, hne]
    rfl
  rw [hall]
  have hD2 : ((docA t).map fun l => l.sum) ≠ [] := by simpa using hD
  have hk : ∀ i, i < t.bs.length → ∀ l ∈ docA t, (keptOf t i).1 ≤ l.getD i 0 ∧ l.getD i 0 ≤ (keptOf t i).2 := fun i hi l hl => by
    rw [keptOf_eq ht (List.getElem?_eq_getElem hi) hne]
    have hD3 : ((docA t).map fun l => l.getD i 0) ≠ [] := by simpa using hD
    have hm := List.mem_map_of_mem (f := fun l : List Int => l.getD i 0) hl
    exact ⟨(hullD_min hD3).2 _ hm, (hullD_max hD3).2 _ hm⟩
  have hlen : ∀ l ∈ docA t, l.length = t.bs.length := fun l hl => (truthsA_mem ht (by rw [← docA_eq ht]; exact hl)).1
  constructor
  · obtain ⟨h1, _⟩ := hullD_min hD2
    obtain ⟨l, hl, e⟩ := List.mem_map.1 h1
    rw [← e, ← sumK_getD l, hlen l hl]
    exact sumK_mono fun i hi => (hk i hi l hl).1
  · obtain ⟨h1, _⟩ := hullD_max hD2
    obtain ⟨l, hl, e⟩ := List.mem_map.1 h1
    rw [← e, ← sumK_getD l, hlen l hl]
    exact sumK_mono fun i hi => (hk i hi l hl).2

theorem specOwes_at {r : Ra} (hr : r.OK) (hok : r.ok = true) {n : Nat} (hn : n < r.tw.bs.length) : specOwes r n = if isT r.tw then (((keptOf r.tw n).1 * r.price, (keptOf r.tw n).2 * r.price), 0) else ((0, 0), 10) := by
  have hh : r.tw.isB n = true := decide_eq_true (by omega)
  unfold specOwes ans
  rw [hok, hh]; rfl
theorem specOwes_no {r : Ra} (hok : r.ok = true) {i : Int} (h : i < 0 ∨ (r.tw.bs.length : Int) ≤ i) : specOwes r i = ((0, 0), 2) := by
  have hh : r.tw.isB i = false := decide_eq_false (by omega)
  unfold specOwes ans
  rw [hok, hh]; rfl
theorem specKept_at {t : Tw} (ht : t.OK) {n : Nat} (hn : n < t.bs.length) : specKept t n = if isT t then (keptOf t n, 0) else ((0, 0), 10) := by
  have hh : t.isB n = true := decide_eq_true (by omega)
  unfold specKept
  rw [(t.ok_iff).2 ht, hh]; rfl
theorem specWho_at {t : Tw} (ht : t.OK) : specWho t = if isT t then (((maskOf (fun i => decide ((keptOf t i).1 > 0)) t.bs.length : Nat) : Int), ((maskOf (fun i => decide ((keptOf t i).2 > 0)) t.bs.length : Nat) : Int), (0 : Int)) else (0, 0, 10) := by
  unfold specWho
  rw [(t.ok_iff).2 ht]; rfl

set_option maxRecDepth 8000 in
set_option maxHeartbeats 8000000 in
theorem RailOwes_ok (r : Ra) (hL : Lens r) : ACall Try.prog 11 [.t (tRa r)] [] (ret (vb true)) := by
  refine ACall.walk k11 ?_
  have hlong := long_ok r
  have hrail := rrail_ok r hL.l
  unfold c11
  refine awpL_chop 2 (c1 := ?a1) (c2 := ?a2) (fun s => r.OK ∧ r.ok = true ∧ lk s.env 1 = .ptr 0 0 ∧ lk s.env 2 = .t (vb false) ∧ s.σ = [.cells ((tw3 r.tw ++ ra7 r).map .t)] ∧ s.df = [] ∧ s.k = 0) ?hc ?_ ?_
  case hc => simp only [chop]; rfl
  · unfold tRa at hlong hrail ⊢
    unfold tw3 ra7 at hlong hrail ⊢
    simp only [List.cons_append, List.nil_append] at hlong hrail
    simp only [go_sem, Nat.reduceEqDiff, Nat.reduceAdd]
    refine ACallL.quiet1 hlong rfl rfl rfl ?_
    cases h1 : r.long
    rotate_left
    · simp only [go_sem, Nat.reduceEqDiff, Bool.not_true, undef]
      refine aliveL ?_
      simp only [go_sem, Nat.reduceEqDiff]
      exact finL_ret [] ⟨rfl, rfl, rfl, rfl, _, rfl, ret_mk rfl⟩
    simp only [go_sem, Nat.reduceEqDiff, Nat.reduceAdd, beq_self_eq_true]
    refine ACallL.quiet1 hrail rfl rfl rfl ?_
    cases hok : r.ok
    · simp only [go_sem, Nat.reduceEqDiff, Bool.not_false, beq_self_eq_true]
      refine aliveL ?_
      simp only [go_sem, Nat.reduceEqDiff]
      exact finL_ret [] ⟨rfl, rfl, rfl, rfl, _, rfl, ret_mk rfl⟩
    have hr := (r.ok_iff).1 hok
    simp only [go_sem, Nat.reduceEqDiff, Bool.not_true, beq_self_eq_true]
    exact hr
  rintro ⟨env, σ, df, k⟩ ⟨hr, hok, q1, q2, hσ, hdf, hk⟩
  simp only at q1 q2 hσ hdf hk
  subst hσ hdf hk
  have hnb := hr.tw.nb
  have hp := hr.price
  have htw := rtowels_ok r.tw
  rw [(r.tw.ok_iff).2 hr.tw] at htw
  have c1 := Owes_ok r r.tw.bs.length hL
  have c2 := Owes_ok r (-1) hL
  have c3 := All_ok r.tw
  have c4 := Who_ok r.tw
  rw [specOwes_no hok (by omega)] at c1 c2
  simp only [spanE, tS] at c1 c2
  rw [specWho_at hr.tw] at c4
  have c5 := fun (n : Nat) (hn : n < r.tw.bs.length) => Owes_ok r n hL
  have c6 := fun (n : Nat) (hn : n < r.tw.bs.length) => Kept_ok r.tw n hL.b
  cases hT : isT r.tw
  · rw [hT, if_neg (by decide)] at c4
    have ha : specAll r.tw = ((0, 0), 10) := by rw [specAll_at hr, hT]; rfl
    rw [ha] at c3
    simp only [spanE, tS] at c3
    simp only [twoE] at c4
    refine awpL_chop 9 (c1 := ?b1) (c2 := ?b2) (fun s => s = { env := [(68, .t (vb false)), (67, .t (vi r.tw.bs.length)), (66, .t (vi r.tw.bs.length)), (1, .ptr 0 0), (8, .t (.ptr (.agg [vi 0, vi 0]) 0)), (9, .t (vi 10)), (11, .t (vi 0)), (13, .t (vi 0)), (14, .t (vi 0))], σ := [.cells ((tw3 r.tw ++ ra7 r).map .t)] }) ?hc2 ?_ ?_
    case hc2 => simp only [chop]; rfl
    · unfold tRa at c1 c2
      unfold tw3 at c3 c4
      unfold tw3 ra7 at c1 c2 ⊢
      simp only [List.cons_append, List.nil_append] at c1 c2
      simp only [go_sem, Nat.reduceEqDiff, Nat.reduceAdd, Nat.reduceLeDiff, q1, List.length_map]
      refine ACallL.fresh1 c1 rfl ?_
      simp only [go_sem, Nat.reduceEqDiff, Nat.reduceAdd, Int.reduceNeg, undef, q1]
      refine ACallL.fresh1 c2 rfl ?_
      simp only [go_sem, Nat.reduceEqDiff, Nat.reduceAdd, Nat.reduceLeDiff, undef, beq_self_eq_true, bne_self_eq_false, q1]
      refine ACallL.fresh1 c3 rfl ?_
      simp only [go_sem, Nat.reduceEqDiff, Nat.reduceAdd, Nat.reduceLeDiff, undef, q1]
      refine ACallL.fresh1 c4 rfl ?_
      simp only [go_sem, Nat.reduceEqDiff, bne_self_eq_false]
      refine awpL_for (i := 67) (L := 66) r.tw.bs.length (fun j s => s = { env := [(67, .t (vi j)), (66, .t (vi r.tw.bs.length)), (1, .ptr 0 0), (8, .t (.ptr (.agg [vi 0, vi 0]) 0)), (9, .t (vi 10)), (11, .t (vi 0)), (13, .t (vi 0)), (14, .t (vi 0))], σ := [.cells ((tw3 r.tw ++ ra7 r).map .t)] }) ?_
        ⟨_, Sub.gc [0] [67, 66, 1, 8, 9, 11, 13, 14] rfl rfl, St.gc_mk (by simp only [List.map_cons, List.map_nil, lk, Nat.reduceEqDiff, reduceIte, q1]; rfl) rfl rfl rfl⟩ ?_ ?_
      · rintro k s rfl; exact ⟨rfl, rfl⟩
      · rintro j s hj rfl
        have d5 := c5 j hj
        have d6 := c6 j hj
        rw [specOwes_at hr hok hj, hT, if_neg (by decide)] at d5
        rw [specKept_at hr.tw hj, hT, if_neg (by decide)] at d6
        simp only [spanE, tS] at d5 d6
        have hw : IntKind.i64.wrap ((j : Int) + 1) = ((j + 1 : Nat) : Int) := by rw [wrap_id (by omega) (by omega)]; omega
        have hw0 : IntKind.i64.wrap (0 : Int) = 0 := by decide
        unfold tRa at d5
        unfold tw3 at d6
        unfold tw3 ra7 at d5 ⊢
        simp only [List.cons_append, List.nil_append] at d5
        simp only [go_sem, Nat.reduceEqDiff, Nat.reduceAdd]
        refine ACallL.fresh1 d5 rfl ?_
        simp only [go_sem, Nat.reduceEqDiff, Nat.reduceAdd, Nat.reduceLeDiff, undef]
        refine ACallL.fresh1 d6 rfl ?_
        simp only [go_sem, Nat.reduceEqDiff, Nat.reduceAdd, Nat.reduceLeDiff, Bool.not_true, Int.reduceBEq, Int.reduceBNe, Int.reduceAdd, undef, beq_self_eq_true, bne_self_eq_false, Bool.and_true, toKey, cellKeys, cellKey, kEq, cellEq, hw0, hw]
        exact ⟨_, Sub.gc [0] [67, 66, 1, 8, 9, 11, 13, 14] rfl rfl, St.gc_mk rfl rfl rfl rfl⟩
      · rintro s rfl
        simp only [go_sem]
        rfl
    rintro s rfl
    unfold tw3 at htw
    unfold tw3 ra7
    simp only [go_sem, Nat.reduceEqDiff, Nat.reduceAdd, Nat.reduceLeDiff, Bool.not_true, Int.reduceBNe, undef, beq_self_eq_true]
    refine ACallL.quiet1 htw rfl rfl rfl ?_
    simp only [go_sem, Nat.reduceEqDiff, beq_self_eq_true]
    refine aliveL ?_
    simp only [go_sem, Nat.reduceEqDiff]
    exact finL_ret [] ⟨rfl, rfl, rfl, rfl, _, rfl, ret_mk rfl⟩
  rw [hT, if_pos rfl] at c4
  have hks := kept_sum hr.tw hT
  have ha : specAll r.tw = ((r.all.1, r.all.2), 0) := by rw [specAll_at hr, hT]; rfl
  rw [ha] at c3 hks
  have hab := r.all_bd hr hT
  simp only at hks
  simp only [spanE, tS] at c3
  simp only [twoE] at c4
  have hkb : ∀ j, j < r.tw.bs.length → 0 ≤ (keptOf r.tw j).1 ∧ (keptOf r.tw j).1 ≤ (keptOf r.tw j).2 ∧ (keptOf r.tw j).2 ≤ 4 := fun j hj => keptOf_bd hr.tw hT (List.getElem?_eq_getElem hj)
  have hbit := fun j => testBit_maskOf (fun i => decide ((keptOf r.tw i).2 > 0)) r.tw.bs.length j
  have hml := maskOf_lt (fun i => decide ((keptOf r.tw i).2 > 0)) r.tw.bs.length
  have hm64 : maskOf (fun i => decide ((keptOf r.tw i).2 > 0)) r.tw.bs.length < 64 := Nat.lt_of_lt_of_le hml (Nat.le_trans (Nat.pow_le_pow_right (by decide) hnb) (by decide))
  generalize maskOf (fun i => decide ((keptOf r.tw i).2 > 0)) r.tw.bs.length = MH at *
  generalize ((maskOf (fun i => decide ((keptOf r.tw i).1 > 0)) r.tw.bs.length : Nat) : Int) = ML at *
  generalize r.all.1 = A0 at *
  generalize r.all.2 = A1 at *
  have hlow : ∀ j, j ≤ r.tw.bs.length → 0 ≤ sumK (fun i => (keptOf r.tw i).1 * r.price) j ∧ sumK (fun i => (keptOf r.tw i).1 * r.price) j ≤ 80 * j := fun j hj => sumK_bd fun i hi => by
    have := hkb i (by omega)
    exact ⟨Int.mul_nonneg (by omega) (by omega), by have := Int.mul_le_mul (show (keptOf r.tw i).1 ≤ 4 by omega) hp.2 hp.1 (by decide); omega⟩
  have hhigh : ∀ j, j ≤ r.tw.bs.length → 0 ≤ sumK (fun i => (keptOf r.tw i).2 * r.price) j ∧ sumK (fun i => (keptOf r.tw i).2 * r.price) j ≤ 80 * j := fun j hj => sumK_bd fun i hi => by
    have := hkb i (by omega)
    exact ⟨Int.mul_nonneg (by omega) (by omega), by have := Int.mul_le_mul (show (keptOf r.tw i).2 ≤ 4 by omega) hp.2 hp.1 (by decide); omega⟩
  refine awpL_chop 9 (c1 := ?d1) (c2 := ?d2) (fun s => s = { env := [(68, .t (vb false)), (67, .t (vi r.tw.bs.length)), (66, .t (vi r.tw.bs.length)), (1, .ptr 0 0), (8, .t (.ptr (.agg [vi A0, vi A1]) 0)), (9, .t (vi 0)), (11, .t (vi (MH : Nat))), (13, .t (vi (sumK (fun i => (keptOf r.tw i).1 * r.price) r.tw.bs.length))), (14, .t (vi (sumK (fun i => (keptOf r.tw i).2 * r.price) r.tw.bs.length)))], σ := [.cells ((tw3 r.tw ++ ra7 r).map .t)] }) ?hc3 ?_ ?_
  case hc3 => simp only [chop]; rfl
  · unfold tRa at c1 c2
    unfold tw3 at c3 c4
    unfold tw3 ra7 at c1 c2 ⊢
    simp only [List.cons_append, List.nil_append] at c1 c2
    simp only [go_sem, Nat.reduceEqDiff, Nat.reduceAdd, Nat.reduceLeDiff, q1, List.length_map]
    refine ACallL.fresh1 c1 rfl ?_
    simp only [go_sem, Nat.reduceEqDiff, Nat.reduceAdd, Int.reduceNeg, undef, q1]
    refine ACallL.fresh1 c2 rfl ?_
    simp only [go_sem, Nat.reduceEqDiff, Nat.reduceAdd, Nat.reduceLeDiff, undef, beq_self_eq_true, bne_self_eq_false, q1]
    refine ACallL.fresh1 c3 rfl ?_
    simp only [go_sem, Nat.reduceEqDiff, Nat.reduceAdd, Nat.reduceLeDiff, undef, q1]
    refine ACallL.fresh1 c4 rfl ?_
    simp only [go_sem, Nat.reduceEqDiff, bne_self_eq_false]
    refine awpL_for (i := 67) (L := 66) r.tw.bs.length (fun j s => s = { env := [(67, .t (vi j)), (66, .t (vi r.tw.bs.length)), (1, .ptr 0 0), (8, .t (.ptr (.agg [vi A0, vi A1]) 0)), (9, .t (vi 0)), (11, .t (vi (MH : Nat))), (13, .t (vi (sumK (fun i => (keptOf r.tw i).1 * r.price) j))), (14, .t (vi (sumK (fun i => (keptOf r.tw i).2 * r.price) j)))], σ := [.cells ((tw3 r.tw ++ ra7 r).map .t)] }) ?_
      ⟨_, Sub.gc [0] [67, 66, 1, 8, 9, 11, 13, 14] rfl rfl, St.gc_mk (by simp only [List.map_cons, List.map_nil, lk, Nat.reduceEqDiff, reduceIte, q1]; rfl) rfl rfl rfl⟩ ?_ ?_
    · rintro k s rfl; exact ⟨rfl, rfl⟩
    · rintro j s hj rfl
      have d5 := c5 j hj
      have d6 := c6 j hj
      rw [specOwes_at hr hok hj, hT, if_pos rfl] at d5
      rw [specKept_at hr.tw hj, hT, if_pos rfl] at d6
      have hw : IntKind.i64.wrap ((j : Int) + 1) = ((j + 1 : Nat) : Int) := by rw [wrap_id (by omega) (by omega)]; omega
      have hb := bit_eq0 (a := MH) (i := j) (by omega)
      have hbj := hbit j
      have hj0 : decide (j < r.tw.bs.length) = true := decide_eq_true hj
      rw [hj0, Bool.true_and] at hbj
      have kb := hkb j hj
      have l0 := hlow j (by omega)
      have l1 := hlow (j + 1) (by omega)
      have g0 := hhigh j (by omega)
      have g1 := hhigh (j + 1) (by omega)
      have s0 := sumK_succ (fun i => (keptOf r.tw i).1 * r.price) j
      have s1 := sumK_succ (fun i => (keptOf r.tw i).2 * r.price) j
      generalize sumK (fun i => (keptOf r.tw i).1 * r.price) (j + 1) = SL1 at *
      generalize sumK (fun i => (keptOf r.tw i).2 * r.price) (j + 1) = SH1 at *
      generalize sumK (fun i => (keptOf r.tw i).1 * r.price) j = SL0 at *
      generalize sumK (fun i => (keptOf r.tw i).2 * r.price) j = SH0 at *
      obtain ⟨K0, K1, hK⟩ : ∃ a b, keptOf r.tw j = (a, b) := ⟨_, _, rfl⟩
      rw [hK] at d5 d6 kb s0 s1 hbj
      simp only at d5 d6 kb s0 s1 hbj
      simp only [spanE, tS] at d5 d6
      have m0 : 0 ≤ K0 * r.price ∧ K0 * r.price ≤ 80 := ⟨Int.mul_nonneg (by omega) (by omega), by have := Int.mul_le_mul (show K0 ≤ 4 by omega) hp.2 hp.1 (by decide); omega⟩
      have m1 : 0 ≤ K1 * r.price ∧ K1 * r.price ≤ 80 := ⟨Int.mul_nonneg (by omega) (by omega), by have := Int.mul_le_mul (show K1 ≤ 4 by omega) hp.2 hp.1 (by decide); omega⟩
      have w0 : IntKind.i64.wrap (r.price * K0) = K0 * r.price := by rw [Int.mul_comm, wrap_id (by omega) (by omega)]
      have w1 : IntKind.i64.wrap (r.price * K1) = K1 * r.price := by rw [Int.mul_comm, wrap_id (by omega) (by omega)]
      have hz : MH.testBit j = false → K1 * r.price = 0 := fun h => by
        rw [h] at hbj
        have := of_decide_eq_false hbj.symm
        have : K1 = 0 := by omega
        rw [this, Int.zero_mul]
      have a0 : IntKind.i64.wrap (SL0 + K0 * r.price) = SL1 := by rw [s0, wrap_id (by omega) (by omega)]
      have a1 : IntKind.i64.wrap (SH0 + K1 * r.price) = SH1 := by rw [s1, wrap_id (by omega) (by omega)]
      generalize K0 * r.price = P0 at *
      generalize K1 * r.price = P1 at *
      have hn : ((j : Int) < 0) = False := by simp
      unfold tRa at d5
      unfold tw3 at d6
      unfold tw3 ra7 at d5 ⊢
      simp only [List.cons_append, List.nil_append] at d5
      simp only [go_sem, Nat.reduceEqDiff, Nat.reduceAdd]
      refine ACallL.fresh1 d5 rfl ?_
      simp only [go_sem, Nat.reduceEqDiff, Nat.reduceAdd, Nat.reduceLeDiff, undef]
      refine ACallL.fresh1 d6 rfl ?_
      simp only [go_sem, Nat.reduceEqDiff, Nat.reduceAdd, Nat.reduceLeDiff, undef, beq_self_eq_true, bne_self_eq_false, w0, w1]
      refine spanL ?_
      cases hmb : MH.testBit j
      · have hz0 := hz hmb
        subst hz0
        simp only [tS, go_sem, Nat.reduceEqDiff, Nat.reduceAdd, Nat.reduceLeDiff, Bool.not_true, Bool.not_false, undef, beq_self_eq_true, bne_self_eq_false, Bool.and_true, toKey, cellKeys, cellKey, kEq, cellEq, hn, IntKind.bits, hb, hmb, a0, a1, hw]
        exact ⟨_, Sub.gc [0] [67, 66, 1, 8, 9, 11, 13, 14] rfl rfl, St.gc_mk rfl rfl rfl rfl⟩
      · simp only [tS, go_sem, Nat.reduceEqDiff, Nat.reduceAdd, Nat.reduceLeDiff, Bool.not_true, undef, beq_self_eq_true, Bool.and_true, toKey, cellKeys, cellKey, kEq, cellEq, hn, IntKind.bits, hb, hmb, a0, a1, hw]
        exact ⟨_, Sub.gc [0] [67, 66, 1, 8, 9, 11, 13, 14] rfl rfl, St.gc_mk rfl rfl rfl rfl⟩
    · rintro s rfl
      simp only [go_sem]
      rfl
  rintro s rfl
  have sl := sumK_mul (fun i => (keptOf r.tw i).1) r.price r.tw.bs.length
  have sh := sumK_mul (fun i => (keptOf r.tw i).2) r.price r.tw.bs.length
  rw [sl, sh]
  have e0 : r.price * sumK (fun i => (keptOf r.tw i).1) r.tw.bs.length ≤ r.price * A0 := Int.mul_le_mul_of_nonneg_left hks.1 hp.1
  have e1 : r.price * A1 ≤ r.price * sumK (fun i => (keptOf r.tw i).2) r.tw.bs.length := Int.mul_le_mul_of_nonneg_left hks.2 hp.1
  have m0 : 0 ≤ r.price * A0 ∧ r.price * A0 ≤ 480 := ⟨Int.mul_nonneg (by omega) (by omega), by have := Int.mul_le_mul hp.2 (show A0 ≤ 24 by omega) (by omega) (by decide); omega⟩
  have m1 : 0 ≤ r.price * A1 ∧ r.price * A1 ≤ 480 := ⟨Int.mul_nonneg (by omega) (by omega), by have := Int.mul_le_mul hp.2 (show A1 ≤ 24 by omega) (by omega) (by decide); omega⟩
  have w0 : IntKind.i64.wrap (r.price * A0) = r.price * A0 := wrap_id (by omega) (by omega)
  have w1 : IntKind.i64.wrap (r.price * A1) = r.price * A1 := wrap_id (by omega) (by omega)
  have f0 : decide (r.price * sumK (fun i => (keptOf r.tw i).1) r.tw.bs.length ≤ r.price * A0) = true := decide_eq_true e0
  have f1 : decide (r.price * sumK (fun i => (keptOf r.tw i).2) r.tw.bs.length ≥ r.price * A1) = true := decide_eq_true e1
  unfold tw3 at htw
  unfold tw3 ra7
  simp only [go_sem, Nat.reduceEqDiff, Nat.reduceAdd, Nat.reduceLeDiff, beq_self_eq_true, bne_self_eq_false, w0, w1, f0, f1]
  refine ACallL.quiet1 htw rfl rfl rfl ?_
  simp only [go_sem, Nat.reduceEqDiff, beq_self_eq_true]
  refine aliveL ?_
  simp only [go_sem, Nat.reduceEqDiff]
  exact finL_ret [] ⟨rfl, rfl, rfl, rfl, _, rfl, ret_mk rfl⟩
end Go.Proofs.Ytcpkkjbkbdmopaa
