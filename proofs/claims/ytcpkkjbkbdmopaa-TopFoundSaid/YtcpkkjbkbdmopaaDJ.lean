/- Proved here: laws that the statements need (RaC3d, RaS1, RaC37, RaS2). No conditions but those that each law states. -/
import Derived.Test.YtcpkkjbkbdmopaaFL
import Derived.Test.YtcpkkjbkbdmopaaFP
import Derived.Test.YtcpkkjbkbdmopaaProg
import Derived.Test.YtcpkkjbkbdmopaaDF

set_option linter.unusedSimpArgs false
set_option linter.unusedVariables false

/- Compiled code of functions, printed by program; each is checked to be the program's. No conditions. -/
namespace Go.Proofs.Ytcpkkjbkbdmopaa
open Go Go.Ab
/-- dipworks/dipworkslaw11.dryAt -/
def c38 : AC :=
 .seq (.reg [⟨(some 4), none, .box (.tmp 0)⟩,
 ⟨(some 5), none, .box (.tmp 1)⟩,
 ⟨(some 8), none, .mov (.lit (.int .i64 0))⟩])
 (.seq (.seq (.reg [⟨(some 10), none, .faddr 1 (.tmp 5)⟩,
 ⟨(some 11), none, .load false 1 (.tmp 10)⟩,
 ⟨(some 9), none, .mov (.tmp 11)⟩])
 (.block 0 (.loop (.seq (.seq (.reg [⟨(some 12), none, .mov (.tmp 9)⟩,
 ⟨(some 13), none, .faddr 4 (.tmp 4)⟩,
 ⟨(some 14), none, .load false 1 (.tmp 13)⟩,
 ⟨(some 15), none, .bin .lss (.tmp 12) (.tmp 14)⟩])
 (.cond (.tmp 15) (.skip)
 (.exit 0)))
 (.seq (.block 1 (.seq (.seq (.reg [⟨(some 18), none, .mov (.tmp 2)⟩,
 ⟨(some 19), none, .mov (.tmp 9)⟩,
 ⟨(some 20), none, .bin .shr (.tmp 18) (.tmp 19)⟩,
 ⟨(some 21), none, .bin .and (.tmp 20) (.lit (.int .i64 1))⟩,
 ⟨(some 22), none, .bin .eql (.tmp 21) (.lit (.int .i64 0))⟩])
 (.cond (.tmp 22) (.reg [⟨(some 23), none, .mov (.tmp 3)⟩,
 ⟨(some 24), none, .faddr 5 (.tmp 4)⟩,
 ⟨(some 25), none, .load false 1 (.tmp 24)⟩,
 ⟨(some 26), none, .mov (.tmp 9)⟩,
 ⟨(some 27), none, .bin .shr (.tmp 25) (.tmp 26)⟩,
 ⟨(some 28), none, .bin .and (.tmp 27) (.lit (.int .i64 1))⟩,
 ⟨(some 29), none, .bin .add (.lit (.int .i64 1)) (.tmp 28)⟩,
 ⟨(some 30), none, .bin .sub (.tmp 23) (.tmp 29)⟩,
 ⟨(some 3), none, .mov (.tmp 30)⟩])
 (.skip)))
 (.seq (.reg [⟨(some 31), none, .mov (.tmp 3)⟩,
 ⟨(some 32), none, .bin .leq (.tmp 31) (.lit (.int .i64 0))⟩])
 (.cond (.tmp 32) (.seq (.reg [⟨(some 33), none, .mov (.tmp 9)⟩,
 ⟨(some 34), none, .bin .add (.tmp 33) (.lit (.int .i64 1))⟩,
 ⟨(some 8), none, .mov (.tmp 34)⟩])
 (.ret))
 (.skip)))))
 (.reg [⟨(some 16), none, .mov (.tmp 9)⟩,
 ⟨(some 17), none, .bin .add (.tmp 16) (.lit (.int .i64 1))⟩,
 ⟨(some 9), none, .mov (.tmp 17)⟩]))))))
 (.seq (.reg [⟨(some 8), none, .mov (.lit (.int .i64 99))⟩])
 (.ret)))
theorem k38 : FnC Try.prog 38 35 [] [] [.tmp 8] c38 4 := ⟨Try.f38, _, Try.func38, rfl, by decide, rfl, by decide, by kernel_rfl, by kernel_rfl⟩
/-- dipworks/dipworkslaw11.inside -/
def c39 : AC :=
 .seq (.reg [⟨(some 3), none, .box (.tmp 1)⟩,
 ⟨(some 4), none, .mov (.lit (.bool false))⟩])
 (.seq (.reg [⟨(some 5), none, .faddr 0 (.tmp 3)⟩,
 ⟨(some 6), none, .load false 1 (.tmp 5)⟩,
 ⟨(some 7), none, .mov (.tmp 0)⟩,
 ⟨(some 8), none, .bin .leq (.tmp 6) (.tmp 7)⟩,
 ⟨(some 9), none, .mov (.tmp 8)⟩,
 ⟨(some 10), (some (9, true)), .mov (.tmp 0)⟩,
 ⟨(some 11), (some (9, true)), .faddr 1 (.tmp 3)⟩,
 ⟨(some 12), (some (9, true)), .load false 1 (.tmp 11)⟩,
 ⟨(some 13), (some (9, true)), .bin .leq (.tmp 10) (.tmp 12)⟩,
 ⟨(some 14), none, .pick (.tmp 9) (.tmp 13) (.lit (.bool false))⟩,
 ⟨(some 4), none, .mov (.tmp 14)⟩])
 (.ret))
theorem k39 : FnC Try.prog 39 15 [] [] [.tmp 4] c39 2 := ⟨Try.f39, _, Try.func39, rfl, by decide, rfl, by decide, by kernel_rfl, by kernel_rfl⟩
end Go.Proofs.Ytcpkkjbkbdmopaa

/- When a line is dry, by the laws' own function. -/
namespace Go.Proofs.Ytcpkkjbkbdmopaa
open Go Go.Ab

theorem bit_val {a i : Nat} (ha : a < 9223372036854775808) : bits .and .i64 ((a : Int).fdiv (2 ^ (min i 64))) 1 = if a.testBit i then 1 else 0 := by
  rw [shr_nat ha, show (1 : Int) = ((1 : Nat) : Int) from rfl, bits_and (Nat.lt_of_le_of_lt (by rw [Nat.shiftRight_eq_div_pow]; exact Nat.div_le_self _ _) ha) (by omega), Nat.testBit_eq_decide_div_mod_eq, Nat.shiftRight_eq_div_pow]
  have : a / 2 ^ i &&& 1 = a / 2 ^ i % 2 := Nat.and_one_is_mod _
  rw [this]
  have h2 := Nat.mod_two_eq_zero_or_one (a / 2 ^ i)
  rcases h2 with h | h <;> rw [h] <;> rfl

set_option maxRecDepth 8000 in
set_option maxHeartbeats 4000000 in
theorem dryAt_ok (r : Ra) (hr : r.OK) (l : Ln) (hl : 0 ≤ l.from_ ∧ l.from_ < r.hours) (R w : Nat) (hR : R < 4096) (hw : 1 ≤ w ∧ w ≤ 100) :
    ACall Try.prog 38 [.t (tRa r), .t (tLn l), .t (vi R), .t (vi w)] [] (ret (vi (tm (dr r.S R) r.H l.from_.toNat w : Nat))) := by
  obtain ⟨g1, g2, g3⟩ := hr.H
  obtain ⟨_, _, b3⟩ := hr.rains
  have hS := hr.sun
  have hSn : r.sun = ((r.S : Nat) : Int) := by unfold Ra.S; omega
  refine ACall.walk k38 ?_
  obtain ⟨A, hA, hAH⟩ : ∃ A : Nat, l.from_ = A ∧ A < r.H := ⟨l.from_.toNat, by omega, by omega⟩
  rw [hA, Int.toNat_natCast]
  unfold c38 tRa tLn tw3 ra7
  simp only [go_sem, Nat.reduceEqDiff, Nat.reduceAdd, Nat.reduceLeDiff]
  refine awpL_loopK (r.H - A) (fun i s' => A + i ≤ r.H ∧ (∀ y, A ≤ y → y ≤ A + i → driedN (dr r.S R) A y < w) ∧ s' = { env := [(9, .t (vi (A + i : Nat))), (2, .t (vi R)), (3, .t (vi ((w - driedN (dr r.S R) A (A + i) : Nat) : Int))), (4, .t (.ptr (tRa r) 0))], σ := [] })
    ⟨_, Sub.gc [] [9, 2, 3, 4] rfl rfl, by omega, fun y h1 h2 => by rw [driedN_none (by omega)]; omega, ?_⟩ ?_
  · refine St.gc_mk ?_ rfl rfl rfl
    rw [Nat.add_zero, driedN_none (Nat.le_refl _), Nat.sub_zero, ← hA]
    rfl
  rintro i s' hi ⟨hAi, hno, rfl⟩
  unfold tRa tw3 ra7
  obtain ⟨h, hh⟩ : ∃ h, A + i = h := ⟨_, rfl⟩
  rw [hh] at hAi hno ⊢
  have hd := hno h (by omega) (Nat.le_refl _)
  cases g : decide ((h : Int) < r.hours)
  · have hE : h = r.H := by have := of_decide_eq_false g; omega
    have ht : tm (dr r.S R) r.H A w = 99 := by
      unfold tm
      rw [fromN_none.2 fun y h1 h2 => hno y h1 (by omega)]; rfl
    rw [ht]
    simp only [go_sem, Nat.reduceEqDiff, Nat.reduceAdd, g]
    exact finL_ret [] ⟨rfl, rfl, rfl, rfl, _, rfl, ret_mk rfl⟩
  have hlt : h < r.H := by have := of_decide_eq_true g; omega
  have hn : ((h : Int) < 0) = False := by simp
  have e1 := bit_eq0 (a := R) (i := h) (by omega)
  have e2 := bit_val (a := r.S) (i := h) (by omega)
  rw [← hSn] at e2
  have hw1 : IntKind.i64.wrap ((h : Int) + 1) = ((h + 1 : Nat) : Int) := by rw [wrap_id (by omega) (by omega)]; omega
  have hA1 : A + (i + 1) = h + 1 := by omega
  rw [hA1]
  have hsucc := driedN_succ (f := dr r.S R) (a := A) (b := h) (by omega)
  have hdr : dr r.S R h = if R.testBit h then 0 else if r.S.testBit h then 2 else 1 := rfl
  -- it is dry now
  have yes : w ≤ driedN (dr r.S R) A (h + 1) → tm (dr r.S R) r.H A w = h + 1 := fun hy => by
    unfold tm
    rw [fromN_some.2 ⟨by omega, by omega, hy, fun y h1 h2 => hno y h1 (by omega)⟩]; rfl
  have no : driedN (dr r.S R) A (h + 1) < w → ∀ y, A ≤ y → y ≤ h + 1 → driedN (dr r.S R) A y < w := fun hx y h1 h2 => by
    by_cases e : y = h + 1
    · rw [e]; exact hx
    · exact hno y h1 (by omega)
  generalize driedN (dr r.S R) A h = D at *
  generalize driedN (dr r.S R) A (h + 1) = D' at *
  generalize tm (dr r.S R) r.H A w = TM at *
  cases hb : R.testBit h
  · rw [hb] at hdr
    simp only [Bool.false_eq_true, if_false] at hdr
    cases hb2 : r.S.testBit h
    · rw [hb2] at hdr
      simp only [Bool.false_eq_true, if_false] at hdr
      have hw2 : IntKind.i64.wrap (((w - D : Nat) : Int) - 1) = ((w : Int) - D' : Int) := by rw [wrap_id (by omega) (by omega)]; omega
      have hwz : IntKind.i64.wrap (1 : Int) = 1 := by decide
      cases hle : decide ((w : Int) - D' ≤ 0)
      · have hx : D' < w := by have := of_decide_eq_false hle; omega
        simp only [go_sem, Nat.reduceEqDiff, Nat.reduceAdd, Bool.not_false, Int.reduceAdd, g, hn, IntKind.bits, e1, hb, e2, hb2, hwz, hw2, hle, hw1]
        refine ⟨by omega, _, Sub.gc [] [9, 2, 3, 4] rfl rfl, by omega, no hx, ?_⟩
        rw [show ((w : Int) - D' : Int) = ((w - D' : Nat) : Int) by omega]
        exact St.gc_mk rfl rfl rfl rfl
      · have hx : w ≤ D' := by have := of_decide_eq_true hle; omega
        rw [yes hx]
        simp only [go_sem, Nat.reduceEqDiff, Nat.reduceAdd, Bool.not_false, Int.reduceAdd, g, hn, IntKind.bits, e1, hb, e2, hb2, hwz, hw2, hle, hw1]
        exact finL_ret [] ⟨rfl, rfl, rfl, rfl, _, rfl, ret_mk rfl⟩
    · rw [hb2] at hdr
      simp only [if_true] at hdr
      have hw2 : IntKind.i64.wrap (((w - D : Nat) : Int) - 2) = ((w : Int) - D' : Int) := by rw [wrap_id (by omega) (by omega)]; omega
      have hwz : IntKind.i64.wrap (2 : Int) = 2 := by decide
      cases hle : decide ((w : Int) - D' ≤ 0)
      · have hx : D' < w := by have := of_decide_eq_false hle; omega
        simp only [go_sem, Nat.reduceEqDiff, Nat.reduceAdd, Bool.not_false, Int.reduceAdd, g, hn, IntKind.bits, e1, hb, e2, hb2, hwz, hw2, hle, hw1]
        refine ⟨by omega, _, Sub.gc [] [9, 2, 3, 4] rfl rfl, by omega, no hx, ?_⟩
        rw [show ((w : Int) - D' : Int) = ((w - D' : Nat) : Int) by omega]
        exact St.gc_mk rfl rfl rfl rfl
      · have hx : w ≤ D' := by have := of_decide_eq_true hle; omega
        rw [yes hx]
        simp only [go_sem, Nat.reduceEqDiff, Nat.reduceAdd, Bool.not_false, Int.reduceAdd, g, hn, IntKind.bits, e1, hb, e2, hb2, hwz, hw2, hle, hw1]
        exact finL_ret [] ⟨rfl, rfl, rfl, rfl, _, rfl, ret_mk rfl⟩
  · rw [hb] at hdr
    simp only [if_true] at hdr
    have hDD : D' = D := by omega
    have hle : decide (((w - D : Nat) : Int) ≤ 0) = false := decide_eq_false (by omega)
    simp only [go_sem, Nat.reduceEqDiff, Nat.reduceAdd, Bool.not_true, g, hn, IntKind.bits, e1, hb, hle, hw1]
    refine ⟨by omega, _, Sub.gc [] [9, 2, 3, 4] rfl rfl, by omega, no (by omega), ?_⟩
    rw [hDD]
    exact St.gc_mk rfl rfl rfl rfl

theorem inside_ok (n a b : Int) : ACall Try.prog 39 [.t (vi n), .t (tS (a, b))] [] (ret (vb (wI n a b))) := by
  refine ACall.walk k39 ?_
  unfold c39
  cases h1 : decide (a ≤ n)
  · simp only [tS, go_sem, Nat.reduceEqDiff, Nat.reduceAdd, Nat.reduceLeDiff, undef, h1]
    exact finL_ret [] ⟨rfl, rfl, rfl, rfl, _, rfl, ret_mk (by have := of_decide_eq_false h1; simp [wI]; omega)⟩
  cases h2 : decide (n ≤ b)
  · simp only [tS, go_sem, Nat.reduceEqDiff, Nat.reduceAdd, Nat.reduceLeDiff, beq_self_eq_true, h1, h2]
    exact finL_ret [] ⟨rfl, rfl, rfl, rfl, _, rfl, ret_mk (by have := of_decide_eq_false h2; simp [wI]; omega)⟩
  simp only [tS, go_sem, Nat.reduceEqDiff, Nat.reduceAdd, Nat.reduceLeDiff, beq_self_eq_true, h1, h2]
  exact finL_ret [] ⟨rfl, rfl, rfl, rfl, _, rfl, ret_mk (by have := of_decide_eq_true h2; have := of_decide_eq_true h1; simp [wI]; omega)⟩
end Go.Proofs.Ytcpkkjbkbdmopaa

/- Compiled code of functions, printed by program; each is checked to be the program's. No conditions. -/
namespace Go.Proofs.Ytcpkkjbkbdmopaa
open Go Go.Ab
/-- dipworks/dipworkslaw11.RailEnds -/
def c7 : AC :=
 .seq (.reg [⟨(some 2), none, .box (.tmp 0)⟩,
 ⟨(some 4), none, .mov (.lit (.bool false))⟩])
 (.seq (.seq (.reg [⟨(some 28), none, .load true 10 (.tmp 2)⟩,
 ⟨(some 29), none, .call (.fn 37) [(.tmp 28)]⟩,
 ⟨(some 30), none, .mov (.tmp 29)⟩,
 ⟨(some 31), (some (30, false)), .load true 10 (.tmp 2)⟩,
 ⟨(some 32), (some (30, false)), .call (.fn 12) [(.tmp 31)]⟩,
 ⟨(some 33), (some (30, false)), .un .not (.tmp 32)⟩,
 ⟨(some 34), none, .pick (.tmp 30) (.lit (.bool true)) (.tmp 33)⟩])
 (.cond (.tmp 34) (.seq (.reg [⟨(some 35), none, .call (.fn 24) []⟩,
 ⟨(some 4), none, .mov (.tmp 35)⟩])
 (.ret))
 (.skip)))
 (.seq (.reg [⟨(some 36), none, .mov (.tmp 1)⟩,
 ⟨(some 37), none, .conv .i64 (.tmp 36)⟩,
 ⟨(some 38), none, .faddr 4 (.tmp 2)⟩,
 ⟨(some 39), none, .load false 1 (.tmp 38)⟩,
 ⟨(some 40), none, .bin .add (.tmp 39) (.lit (.int .i64 1))⟩,
 ⟨(some 41), none, .bin .rem (.tmp 37) (.tmp 40)⟩,
 ⟨(some 5), none, .mov (.tmp 41)⟩])
 (.seq (.reg [⟨(some 6), none, .mov (.lit (.int .i64 0))⟩,
 ⟨(some 7), none, .mov (.lit (.int .i64 0))⟩])
 (.seq (.seq (.reg [⟨(some 42), none, .faddr 8 (.tmp 2)⟩,
 ⟨(some 43), none, .load false 1 (.tmp 42)⟩,
 ⟨(some 44), none, .len (.tmp 43)⟩,
 ⟨(some 45), none, .mov (.lit (.int .i64 0))⟩])
 (.block 0 (.loop (.seq (.reg [⟨(some 46), none, .bin .lss (.tmp 45) (.tmp 44)⟩])
 (.seq (.cond (.tmp 46) (.skip)
 (.exit 0))
 (.seq (.block 1 (.seq (.reg [⟨(some 47), none, .mov (.tmp 45)⟩,
 ⟨(some 48), none, .iaddr 4 (.tmp 43) (.tmp 45)⟩,
 ⟨(some 49), none, .load true 4 (.tmp 48)⟩,
 ⟨(some 9), none, .alloc [(.int .i64 0), (.int .i64 0), (.int .i64 0), (.int .i64 0)]⟩,
 ⟨(some 8), none, .mov (.tmp 47)⟩,
 ⟨none, none, .store 4 (.tmp 9) (.tmp 49)⟩])
 (.seq (.draw (.step ⟨(some 50), none, .load true 10 (.tmp 2)⟩ (
 .step ⟨(some 51), none, .load true 4 (.tmp 9)⟩ (
 .step ⟨(some 52), none, .faddr 6 (.tmp 2)⟩ (
 .step ⟨(some 53), none, .load false 1 (.tmp 52)⟩ (
 .step ⟨(some 54), none, .faddr 2 (.tmp 9)⟩ (
 .step ⟨(some 55), none, .faddr 0 (.tmp 54)⟩ (
 .step ⟨(some 56), none, .load false 1 (.tmp 55)⟩ (
 .step ⟨(some 58), none, .load true 10 (.tmp 2)⟩ (
 .step ⟨(some 59), none, .load true 4 (.tmp 9)⟩ (
 .step ⟨(some 60), none, .faddr 6 (.tmp 2)⟩ (
 .step ⟨(some 61), none, .load false 1 (.tmp 60)⟩ (
 .step ⟨(some 62), none, .faddr 7 (.tmp 2)⟩ (
 .step ⟨(some 63), none, .load false 1 (.tmp 62)⟩ (
 .step ⟨(some 64), none, .bin .or (.tmp 61) (.tmp 63)⟩ (
 .step ⟨(some 65), none, .faddr 2 (.tmp 9)⟩ (
 .step ⟨(some 66), none, .faddr 1 (.tmp 65)⟩ (
 .step ⟨(some 67), none, .load false 1 (.tmp 66)⟩ (
 .ev ⟨(some 57), none, .call (.fn 38) [(.tmp 50), (.tmp 51), (.tmp 53), (.tmp 56)]⟩ [⟨(some 67), none, .load false 1 (.tmp 66)⟩, ⟨(some 66), none, .faddr 1 (.tmp 65)⟩, ⟨(some 65), none, .faddr 2 (.tmp 9)⟩, ⟨(some 63), none, .load false 1 (.tmp 62)⟩, ⟨(some 62), none, .faddr 7 (.tmp 2)⟩, ⟨(some 61), none, .load false 1 (.tmp 60)⟩, ⟨(some 60), none, .faddr 6 (.tmp 2)⟩, ⟨(some 59), none, .load true 4 (.tmp 9)⟩, ⟨(some 58), none, .load true 10 (.tmp 2)⟩, ⟨(some 55), none, .faddr 0 (.tmp 54)⟩, ⟨(some 54), none, .faddr 2 (.tmp 9)⟩, ⟨(some 52), none, .faddr 6 (.tmp 2)⟩] (
 .ev ⟨(some 68), none, .call (.fn 38) [(.tmp 58), (.tmp 59), (.tmp 64), (.tmp 67)]⟩ [⟨(some 66), none, .faddr 1 (.tmp 65)⟩, ⟨(some 65), none, .faddr 2 (.tmp 9)⟩, ⟨(some 63), none, .load false 1 (.tmp 62)⟩, ⟨(some 62), none, .faddr 7 (.tmp 2)⟩, ⟨(some 61), none, .load false 1 (.tmp 60)⟩, ⟨(some 60), none, .faddr 6 (.tmp 2)⟩, ⟨(some 56), none, .load false 1 (.tmp 55)⟩, ⟨(some 55), none, .faddr 0 (.tmp 54)⟩, ⟨(some 54), none, .faddr 2 (.tmp 9)⟩, ⟨(some 53), none, .load false 1 (.tmp 52)⟩, ⟨(some 52), none, .faddr 6 (.tmp 2)⟩, ⟨(some 51), none, .load true 4 (.tmp 9)⟩, ⟨(some 50), none, .load true 10 (.tmp 2)⟩] (
 .step ⟨(some 10), none, .mov (.tmp 57)⟩ (
 .step ⟨(some 11), none, .mov (.tmp 68)⟩ (
 .done)))
 (.stop))
 (.stop))))))))))))))))))))
 (.seq (.reg [⟨(some 70), none, .load true 10 (.tmp 2)⟩,
 ⟨(some 71), none, .mov (.tmp 8)⟩,
 ⟨(some 72), none, .call (.fn 25) [(.tmp 70), (.tmp 71)]⟩,
 ⟨(some 69), none, .mov (.tmp 72)⟩,
 ⟨(some 73), none, .ext (.tmp 69) 0⟩,
 ⟨(some 74), none, .ext (.tmp 69) 1⟩,
 ⟨(some 12), none, .alloc [(.int .i64 0), (.int .i64 0)]⟩,
 ⟨none, none, .store 2 (.tmp 12) (.tmp 73)⟩,
 ⟨(some 13), none, .mov (.tmp 74)⟩])
 (.seq (.seq (.draw (.step ⟨(some 75), none, .mov (.tmp 13)⟩ (
 .step ⟨(some 76), none, .bin .eql (.tmp 75) (.lit (.int .i64 0))⟩ (
 .step ⟨(some 77), none, .mov (.tmp 11)⟩ (
 .step ⟨(some 78), none, .bin .lss (.tmp 77) (.lit (.int .i64 99))⟩ (
 .step ⟨(some 79), none, .eqb true (.tmp 76) (.tmp 78)⟩ (
 .step ⟨(some 80), none, .mov (.tmp 79)⟩ (
 .step ⟨(some 81), (some (80, false)), .mov (.tmp 13)⟩ (
 .step ⟨(some 82), (some (80, false)), .bin .eql (.tmp 81) (.lit (.int .i64 0))⟩ (
 .step ⟨(some 83), (some (80, false)), .mov (.tmp 82)⟩ (
 .step ⟨(some 84), (some (83, true)), .load true 2 (.tmp 12)⟩ (
 .step ⟨(some 85), (some (83, true)), .mov (.tmp 10)⟩ (
 .step ⟨(some 86), (some (83, true)), .mov (.tmp 11)⟩ (
 .ev ⟨(some 87), (some (83, true)), .call (.fn 36) [(.tmp 85), (.tmp 86)]⟩ [⟨(some 84), (some (83, true)), .load true 2 (.tmp 12)⟩] (
 .step ⟨(some 88), (some (83, true)), .eqs true [(some .i64), (some .i64)] (.tmp 84) (.tmp 87)⟩ (
 .step ⟨(some 89), (some (80, false)), .pick (.tmp 83) (.tmp 88) (.lit (.bool false))⟩ (
 .step ⟨(some 90), none, .pick (.tmp 80) (.lit (.bool true)) (.tmp 89)⟩ (
 .done))))
 (.stop)))))))))))))))
 (.cond (.tmp 90) (.seq (.reg [⟨(some 4), none, .mov (.lit (.bool false))⟩])
 (.ret))
 (.skip)))
 (.seq (.seq (.reg [⟨(some 91), none, .mov (.tmp 10)⟩,
 ⟨(some 92), none, .mov (.tmp 5)⟩,
 ⟨(some 93), none, .bin .gtr (.tmp 91) (.tmp 92)⟩])
 (.cond (.tmp 93) (.reg [⟨(some 94), none, .mov (.tmp 6)⟩,
 ⟨(some 95), none, .faddr 0 (.tmp 9)⟩,
 ⟨(some 96), none, .load false 1 (.tmp 95)⟩,
 ⟨(some 97), none, .bin .add (.tmp 94) (.tmp 96)⟩,
 ⟨(some 6), none, .mov (.tmp 97)⟩])
 (.skip)))
 (.seq (.reg [⟨(some 98), none, .mov (.tmp 11)⟩,
 ⟨(some 99), none, .mov (.tmp 5)⟩,
 ⟨(some 100), none, .bin .gtr (.tmp 98) (.tmp 99)⟩])
 (.cond (.tmp 100) (.reg [⟨(some 101), none, .mov (.tmp 7)⟩,
 ⟨(some 102), none, .faddr 0 (.tmp 9)⟩,
 ⟨(some 103), none, .load false 1 (.tmp 102)⟩,
 ⟨(some 104), none, .bin .add (.tmp 101) (.tmp 103)⟩,
 ⟨(some 7), none, .mov (.tmp 104)⟩])
 (.skip)))))))))
 (.reg [⟨(some 105), none, .bin .add (.tmp 45) (.lit (.int .i64 1))⟩,
 ⟨(some 45), none, .mov (.tmp 105)⟩])))))))
 (.seq (.reg [⟨(some 107), none, .load true 10 (.tmp 2)⟩,
 ⟨(some 108), none, .mov (.tmp 5)⟩,
 ⟨(some 109), none, .call (.fn 27) [(.tmp 107), (.tmp 108)]⟩,
 ⟨(some 106), none, .mov (.tmp 109)⟩,
 ⟨(some 110), none, .ext (.tmp 106) 0⟩,
 ⟨(some 111), none, .ext (.tmp 106) 1⟩,
 ⟨(some 14), none, .alloc [(.int .i64 0), (.int .i64 0)]⟩,
 ⟨none, none, .store 2 (.tmp 14) (.tmp 110)⟩,
 ⟨(some 15), none, .mov (.tmp 111)⟩])
 (.seq (.reg [⟨(some 113), none, .load true 10 (.tmp 2)⟩,
 ⟨(some 114), none, .mov (.tmp 5)⟩,
 ⟨(some 115), none, .call (.fn 14) [(.tmp 113), (.tmp 114)]⟩,
 ⟨(some 112), none, .mov (.tmp 115)⟩,
 ⟨(some 116), none, .ext (.tmp 112) 0⟩,
 ⟨(some 117), none, .ext (.tmp 112) 1⟩,
 ⟨(some 16), none, .alloc [(.int .i64 0), (.int .i64 0)]⟩,
 ⟨none, none, .store 2 (.tmp 16) (.tmp 116)⟩,
 ⟨(some 17), none, .mov (.tmp 117)⟩])
 (.seq (.reg [⟨(some 119), none, .faddr 0 (.tmp 2)⟩,
 ⟨(some 120), none, .load true 3 (.tmp 119)⟩,
 ⟨(some 121), none, .call (.fn 15) [(.tmp 120)]⟩,
 ⟨(some 118), none, .mov (.tmp 121)⟩,
 ⟨(some 122), none, .ext (.tmp 118) 0⟩,
 ⟨(some 123), none, .ext (.tmp 118) 1⟩,
 ⟨(some 18), none, .alloc [(.int .i64 0), (.int .i64 0)]⟩,
 ⟨none, none, .store 2 (.tmp 18) (.tmp 122)⟩,
 ⟨(some 19), none, .mov (.tmp 123)⟩])
 (.seq (.reg [⟨(some 125), none, .load true 10 (.tmp 2)⟩,
 ⟨(some 126), none, .faddr 4 (.tmp 2)⟩,
 ⟨(some 127), none, .load false 1 (.tmp 126)⟩,
 ⟨(some 128), none, .bin .add (.tmp 127) (.lit (.int .i64 1))⟩,
 ⟨(some 129), none, .call (.fn 27) [(.tmp 125), (.tmp 128)]⟩,
 ⟨(some 124), none, .mov (.tmp 129)⟩,
 ⟨(some 130), none, .ext (.tmp 124) 0⟩,
 ⟨(some 131), none, .ext (.tmp 124) 1⟩,
 ⟨(some 20), none, .alloc [(.int .i64 0), (.int .i64 0)]⟩,
 ⟨none, none, .store 2 (.tmp 20) (.tmp 130)⟩,
 ⟨(some 21), none, .mov (.tmp 131)⟩])
 (.seq (.reg [⟨(some 133), none, .load true 10 (.tmp 2)⟩,
 ⟨(some 134), none, .call (.fn 27) [(.tmp 133), (.lit (.int .i64 (-1)))]⟩,
 ⟨(some 132), none, .mov (.tmp 134)⟩,
 ⟨(some 135), none, .ext (.tmp 132) 0⟩,
 ⟨(some 136), none, .ext (.tmp 132) 1⟩,
 ⟨(some 22), none, .alloc [(.int .i64 0), (.int .i64 0)]⟩,
 ⟨none, none, .store 2 (.tmp 22) (.tmp 135)⟩,
 ⟨(some 23), none, .mov (.tmp 136)⟩])
 (.seq (.reg [⟨(some 138), none, .load true 10 (.tmp 2)⟩,
 ⟨(some 139), none, .faddr 8 (.tmp 2)⟩,
 ⟨(some 140), none, .load false 1 (.tmp 139)⟩,
 ⟨(some 141), none, .len (.tmp 140)⟩,
 ⟨(some 142), none, .call (.fn 25) [(.tmp 138), (.tmp 141)]⟩,
 ⟨(some 137), none, .mov (.tmp 142)⟩,
 ⟨(some 143), none, .ext (.tmp 137) 0⟩,
 ⟨(some 144), none, .ext (.tmp 137) 1⟩,
 ⟨(some 24), none, .alloc [(.int .i64 0), (.int .i64 0)]⟩,
 ⟨none, none, .store 2 (.tmp 24) (.tmp 143)⟩,
 ⟨(some 25), none, .mov (.tmp 144)⟩])
 (.seq (.reg [⟨(some 146), none, .load true 10 (.tmp 2)⟩,
 ⟨(some 147), none, .call (.fn 25) [(.tmp 146), (.lit (.int .i64 (-1)))]⟩,
 ⟨(some 145), none, .mov (.tmp 147)⟩,
 ⟨(some 148), none, .ext (.tmp 145) 0⟩,
 ⟨(some 149), none, .ext (.tmp 145) 1⟩,
 ⟨(some 26), none, .alloc [(.int .i64 0), (.int .i64 0)]⟩,
 ⟨none, none, .store 2 (.tmp 26) (.tmp 148)⟩,
 ⟨(some 27), none, .mov (.tmp 149)⟩])
 (.seq (.seq (.draw (.step ⟨(some 150), none, .mov (.tmp 15)⟩ (
 .step ⟨(some 151), none, .bin .neq (.tmp 150) (.lit (.int .i64 0))⟩ (
 .step ⟨(some 152), none, .mov (.tmp 151)⟩ (
 .step ⟨(some 153), (some (152, false)), .load true 2 (.tmp 14)⟩ (
 .step ⟨(some 154), (some (152, false)), .mov (.tmp 6)⟩ (
 .step ⟨(some 155), (some (152, false)), .mov (.tmp 7)⟩ (
 .ev ⟨(some 156), (some (152, false)), .call (.fn 36) [(.tmp 154), (.tmp 155)]⟩ [⟨(some 153), (some (152, false)), .load true 2 (.tmp 14)⟩] (
 .step ⟨(some 157), (some (152, false)), .eqs true [(some .i64), (some .i64)] (.tmp 153) (.tmp 156)⟩ (
 .step ⟨(some 158), none, .pick (.tmp 152) (.lit (.bool true)) (.tmp 157)⟩ (
 .step ⟨(some 159), none, .mov (.tmp 158)⟩ (
 .step ⟨(some 160), (some (159, false)), .mov (.tmp 17)⟩ (
 .step ⟨(some 161), (some (159, false)), .mov (.tmp 19)⟩ (
 .step ⟨(some 162), (some (159, false)), .bin .neq (.tmp 160) (.tmp 161)⟩ (
 .step ⟨(some 163), none, .pick (.tmp 159) (.lit (.bool true)) (.tmp 162)⟩ (
 .step ⟨(some 164), none, .mov (.tmp 163)⟩ (
 .step ⟨(some 165), (some (164, false)), .mov (.tmp 21)⟩ (
 .step ⟨(some 166), (some (164, false)), .bin .neq (.tmp 165) (.lit (.int .i64 2))⟩ (
 .step ⟨(some 167), none, .pick (.tmp 164) (.lit (.bool true)) (.tmp 166)⟩ (
 .step ⟨(some 168), none, .mov (.tmp 167)⟩ (
 .step ⟨(some 169), (some (168, false)), .mov (.tmp 23)⟩ (
 .step ⟨(some 170), (some (168, false)), .mov (.tmp 21)⟩ (
 .step ⟨(some 171), (some (168, false)), .bin .neq (.tmp 169) (.tmp 170)⟩ (
 .step ⟨(some 172), none, .pick (.tmp 168) (.lit (.bool true)) (.tmp 171)⟩ (
 .step ⟨(some 173), none, .mov (.tmp 172)⟩ (
 .step ⟨(some 174), (some (173, false)), .mov (.tmp 25)⟩ (
 .step ⟨(some 175), (some (173, false)), .mov (.tmp 21)⟩ (
 .step ⟨(some 176), (some (173, false)), .bin .neq (.tmp 174) (.tmp 175)⟩ (
 .step ⟨(some 177), none, .pick (.tmp 173) (.lit (.bool true)) (.tmp 176)⟩ (
 .step ⟨(some 178), none, .mov (.tmp 177)⟩ (
 .step ⟨(some 179), (some (178, false)), .mov (.tmp 27)⟩ (
 .step ⟨(some 180), (some (178, false)), .mov (.tmp 21)⟩ (
 .step ⟨(some 181), (some (178, false)), .bin .neq (.tmp 179) (.tmp 180)⟩ (
 .step ⟨(some 182), none, .pick (.tmp 178) (.lit (.bool true)) (.tmp 181)⟩ (
 .done)))))))))))))))))))))))))))
 (.stop)))))))))
 (.cond (.tmp 182) (.seq (.reg [⟨(some 4), none, .mov (.lit (.bool false))⟩])
 (.ret))
 (.skip)))
 (.seq (.draw (.step ⟨(some 183), none, .mov (.tmp 17)⟩ (
 .step ⟨(some 184), none, .bin .neq (.tmp 183) (.lit (.int .i64 0))⟩ (
 .step ⟨(some 185), none, .mov (.tmp 184)⟩ (
 .step ⟨(some 186), (some (185, false)), .load true 2 (.tmp 16)⟩ (
 .step ⟨(some 187), (some (185, false)), .faddr 3 (.tmp 2)⟩ (
 .step ⟨(some 188), (some (185, false)), .load false 1 (.tmp 187)⟩ (
 .step ⟨(some 189), (some (185, false)), .faddr 1 (.tmp 18)⟩ (
 .step ⟨(some 190), (some (185, false)), .load false 1 (.tmp 189)⟩ (
 .step ⟨(some 191), (some (185, false)), .bin .sub (.tmp 188) (.tmp 190)⟩ (
 .step ⟨(some 192), (some (185, false)), .mov (.tmp 7)⟩ (
 .step ⟨(some 193), (some (185, false)), .bin .sub (.tmp 191) (.tmp 192)⟩ (
 .step ⟨(some 194), (some (185, false)), .mxmn true (.lit (.int .i64 0)) [(.tmp 193)]⟩ (
 .step ⟨(some 195), (some (185, false)), .faddr 3 (.tmp 2)⟩ (
 .step ⟨(some 196), (some (185, false)), .load false 1 (.tmp 195)⟩ (
 .step ⟨(some 197), (some (185, false)), .faddr 0 (.tmp 18)⟩ (
 .step ⟨(some 198), (some (185, false)), .load false 1 (.tmp 197)⟩ (
 .step ⟨(some 199), (some (185, false)), .bin .sub (.tmp 196) (.tmp 198)⟩ (
 .step ⟨(some 200), (some (185, false)), .mov (.tmp 6)⟩ (
 .step ⟨(some 201), (some (185, false)), .bin .sub (.tmp 199) (.tmp 200)⟩ (
 .step ⟨(some 202), (some (185, false)), .mxmn true (.lit (.int .i64 0)) [(.tmp 201)]⟩ (
 .ev ⟨(some 203), (some (185, false)), .call (.fn 36) [(.tmp 194), (.tmp 202)]⟩ [⟨(some 198), (some (185, false)), .load false 1 (.tmp 197)⟩, ⟨(some 197), (some (185, false)), .faddr 0 (.tmp 18)⟩, ⟨(some 196), (some (185, false)), .load false 1 (.tmp 195)⟩, ⟨(some 195), (some (185, false)), .faddr 3 (.tmp 2)⟩, ⟨(some 190), (some (185, false)), .load false 1 (.tmp 189)⟩, ⟨(some 189), (some (185, false)), .faddr 1 (.tmp 18)⟩, ⟨(some 188), (some (185, false)), .load false 1 (.tmp 187)⟩, ⟨(some 187), (some (185, false)), .faddr 3 (.tmp 2)⟩, ⟨(some 186), (some (185, false)), .load true 2 (.tmp 16)⟩] (
 .step ⟨(some 204), (some (185, false)), .eqs false [(some .i64), (some .i64)] (.tmp 186) (.tmp 203)⟩ (
 .step ⟨(some 205), none, .pick (.tmp 185) (.lit (.bool true)) (.tmp 204)⟩ (
 .step ⟨(some 206), none, .mov (.tmp 205)⟩ (
 .ev ⟨(some 207), (some (206, true)), .call (.fn 24) []⟩ [⟨(some 204), (some (185, false)), .eqs false [(some .i64), (some .i64)] (.tmp 186) (.tmp 203)⟩, ⟨(some 198), (some (185, false)), .load false 1 (.tmp 197)⟩, ⟨(some 197), (some (185, false)), .faddr 0 (.tmp 18)⟩, ⟨(some 196), (some (185, false)), .load false 1 (.tmp 195)⟩, ⟨(some 195), (some (185, false)), .faddr 3 (.tmp 2)⟩, ⟨(some 190), (some (185, false)), .load false 1 (.tmp 189)⟩, ⟨(some 189), (some (185, false)), .faddr 1 (.tmp 18)⟩, ⟨(some 188), (some (185, false)), .load false 1 (.tmp 187)⟩, ⟨(some 187), (some (185, false)), .faddr 3 (.tmp 2)⟩, ⟨(some 186), (some (185, false)), .load true 2 (.tmp 16)⟩] (
 .step ⟨(some 208), none, .pick (.tmp 206) (.tmp 207) (.lit (.bool false))⟩ (
 .step ⟨(some 4), none, .mov (.tmp 208)⟩ (
 .done)))
 (.stop)))))
 (.stop)))))))))))))))))))))))
 (.ret))))))))))))))
theorem k7 : FnC Try.prog 7 209 [] [] [.tmp 4] c7 2 := ⟨Try.f7, _, Try.func7, rfl, by decide, rfl, by decide, by kernel_rfl, by kernel_rfl⟩
end Go.Proofs.Ytcpkkjbkbdmopaa

/- RailEnds: both ends of what is told are those of a truth. -/
namespace Go.Proofs.Ytcpkkjbkbdmopaa
open Go Go.Ab

theorem aliveL {σ : List AO} {R : Lz (Out → List AO → Prop)} (h : R.get (.ret (.t (vb true))) σ) : @ACallL Try.prog 24 [] σ R := ACallL.fresh1 alive_ok rfl h
theorem leftT_succ (t : Ln → Nat) (ls : List Ln) (hour : Nat) {j : Nat} {l : Ln} (h : ls[j]? = some l) : leftT t (ls.take (j + 1)) hour = leftT t (ls.take j) hour + if hour < t l then l.many else 0 := by
  have e : ∀ m, leftT t m hour = (lefts t m hour).sum := fun _ => rfl
  rw [e, e, lefts_succ t ls hour h, List.sum_append]
  split <;> simp
theorem leftT_nil (t : Ln → Nat) (hour : Nat) : leftT t [] hour = 0 := rfl
theorem specDry_at {r : Ra} (hok : r.ok = true) {j : Nat} {l : Ln} (h : r.lines[j]? = some l) : specDry r j = if r.tm true l ≤ r.H then ((((r.tm false l : Nat) : Int), ((r.tm true l : Nat) : Int)), 0) else ((0, 0), 11) := by
  have hj := (List.getElem?_eq_some_iff.1 h).1
  have hh : r.isLn j = true := decide_eq_true (by omega)
  unfold specDry
  rw [hok, hh, if_pos rfl, if_pos rfl, Int.toNat_natCast, h]
theorem specDry_no {r : Ra} (hok : r.ok = true) {i : Int} (h : i < 0 ∨ (r.lines.length : Int) ≤ i) : specDry r i = ((0, 0), 2) := by
  have hh : r.isLn i = false := decide_eq_false (by omega)
  unfold specDry
  rw [hok, hh]; rfl
theorem specWet_at {r : Ra} (hr : r.OK) (hok : r.ok = true) {h : Nat} (hh : h ≤ r.H) : specWet r h = ((r.left false h, r.left true h), 0) := by
  have h3 := hr.H.2.2
  have hi : r.isH h = true := decide_eq_true (by omega)
  unfold specWet
  rw [hok, hi]; rfl
theorem specWet_no {r : Ra} (hok : r.ok = true) {i : Int} (h : i < 0 ∨ r.hours < i) : specWet r i = ((0, 0), 2) := by
  have hh : r.isH i = false := decide_eq_false (by omega)
  unfold specWet
  rw [hok, hh]; rfl
theorem specReady_at {r : Ra} (hr : r.OK) (hok : r.ok = true) {h : Nat} (hh : h ≤ r.H) : specReady r h = if isT r.tw then ((max 0 (r.ready h).1, max 0 (r.ready h).2), 0) else ((0, 0), 10) := by
  have h3 := hr.H.2.2
  have hi : r.isH h = true := decide_eq_true (by omega)
  unfold specReady ans
  rw [hok, hi]; rfl
theorem specAll_at {r : Ra} (hr : r.OK) : specAll r.tw = if isT r.tw then (r.all, 0) else ((0, 0), 10) := by
  unfold specAll
  rw [(r.tw.ok_iff).2 hr.tw]
  rfl
theorem mod_nat (w n : Nat) : ((w : Int)).tmod (n : Int) = ((w % n : Nat) : Int) := by
  rw [Int.tmod_eq_emod_of_nonneg (by omega)]; omega

def EnMid (r : Ra) (hour : Nat) (s : St) : Prop := lk s.env 2 = .ptr 0 0 ∧ lk s.env 5 = .t (vi hour) ∧ s.σ = [.cells ((tw3 r.tw ++ ra7 r).map .t)] ∧ s.df = [] ∧ s.k = 0

set_option maxRecDepth 8000 in
set_option maxHeartbeats 8000000 in
theorem RailEnds_ok (r : Ra) (hL : Lens r) (w : Nat) (hw : w < 256) : ACall Try.prog 7 [.t (tRa r), .t (.lit (.int .u8 w))] [] (ret (vb true)) := by
  refine ACall.walk k7 ?_
  have hlong := long_ok r
  have hrail := rrail_ok r hL.l
  unfold c7
  refine awpL_chop 3 (c1 := ?a1) (c2 := ?a2) (fun s => r.OK ∧ r.ok = true ∧ EnMid r (w % (r.H + 1)) s) ?hc ?_ ?_
  case hc => simp only [chop]; rfl
  · unfold tRa at hlong hrail ⊢
    unfold tw3 ra7 at hlong hrail ⊢
    simp only [List.cons_append, List.nil_append] at hlong hrail
    simp only [go_sem, Nat.reduceEqDiff, Nat.reduceAdd]
    refine ACallL.quiet1 hlong rfl rfl rfl ?_
    cases h1 : r.long
    rotate_left
    · simp only [go_sem, Nat.reduceEqDiff, Bool.not_true, undef]
      refine aliveL ?_
      simp only [go_sem, Nat.reduceEqDiff]
      exact finL_ret [] ⟨rfl, rfl, rfl, rfl, _, rfl, ret_mk rfl⟩
    simp only [go_sem, Nat.reduceEqDiff, Nat.reduceAdd, beq_self_eq_true]
    refine ACallL.quiet1 hrail rfl rfl rfl ?_
    cases hok : r.ok
    · simp only [go_sem, Nat.reduceEqDiff, Bool.not_false, beq_self_eq_true]
      refine aliveL ?_
      simp only [go_sem, Nat.reduceEqDiff]
      exact finL_ret [] ⟨rfl, rfl, rfl, rfl, _, rfl, ret_mk rfl⟩
    have hr := (r.ok_iff).1 hok
    obtain ⟨g1, g2, g3⟩ := hr.H
    have e1 : IntKind.i64.wrap (w : Int) = w := wrap_id (by omega) (by omega)
    have e2 : IntKind.i64.wrap (r.hours + 1) = ((r.H + 1 : Nat) : Int) := by rw [g3, wrap_id (by omega) (by omega)]; omega
    have e3 : (((r.H + 1 : Nat) : Int) = 0) = False := by simp; omega
    simp only [go_sem, Nat.reduceEqDiff, Nat.reduceAdd, Nat.reduceLeDiff, Bool.not_true, beq_self_eq_true, e1, e2, e3, mod_nat]
    exact ⟨hr, rfl, rfl, rfl, rfl, rfl⟩
  rintro ⟨env, σ, df, k⟩ ⟨hr, hok, q2, q5, hσ, hdf, hk⟩
  simp only at q2 q5 hσ hdf hk
  subst hσ hdf hk
  obtain ⟨g1, g2, g3⟩ := hr.H
  obtain ⟨b1, b2, b3⟩ := hr.rains
  have hR : r.rain = ((r.R : Nat) : Int) := by unfold Ra.R; have := hr.rain; omega
  have hP : r.perhaps = ((r.Pe : Nat) : Int) := by unfold Ra.Pe; have := hr.perhaps; omega
  have hor : bits .or .i64 r.rain r.perhaps = ((r.R ||| r.Pe : Nat) : Int) := by rw [hR, hP]; exact bits_or (by omega) (by omega)
  obtain ⟨hour, hhe, hh⟩ : ∃ n, w % (r.H + 1) = n ∧ n ≤ r.H := ⟨_, rfl, by have := Nat.mod_lt w (show 0 < r.H + 1 by omega); omega⟩
  rw [hhe] at q5
  clear hhe
  have hnl := hr.nl
  refine awpL_chop 2 (c1 := ?b1) (c2 := ?b2) (fun s => EnMid r hour s ∧ lk s.env 6 = .t (vi (r.left false hour)) ∧ lk s.env 7 = .t (vi (r.left true hour))) ?hc2 ?_ ?_
  case hc2 => simp only [chop]; rfl
  · unfold tw3 ra7
    simp only [go_sem, Nat.reduceEqDiff, Nat.reduceAdd, Nat.reduceLeDiff, q2, List.length_map]
    refine awpL_for (i := 45) (L := 44) r.lines.length (fun j s => s = { env := [(45, .t (vi j)), (44, .t (vi r.lines.length)), (43, .t (.slice 4 (r.lines.map tLn))), (2, .ptr 0 0), (5, .t (vi hour)), (6, .t (vi (leftT (r.tm false) (r.lines.take j) hour))), (7, .t (vi (leftT (r.tm true) (r.lines.take j) hour)))], σ := [.cells ((tw3 r.tw ++ ra7 r).map .t)] }) ?_
      ⟨_, Sub.gc [0] [45, 44, 43, 2, 5, 6, 7] rfl rfl, St.gc_mk (by simp only [List.map_cons, List.map_nil, lk, Nat.reduceEqDiff, reduceIte, q2, q5]; rfl) rfl rfl rfl⟩ ?_ ?_
    · rintro k s rfl; exact ⟨rfl, rfl⟩
    · rintro j s hj rfl
      have hx : r.lines[j]? = some r.lines[j] := List.getElem?_eq_getElem hj
      have hmem : r.lines[j] ∈ r.lines := List.getElem_mem hj
      have s0 := leftT_succ (r.tm false) r.lines hour hx
      have s1 := leftT_succ (r.tm true) r.lines hour hx
      have hsp := specDry_at hok hx
      generalize r.lines[j] = l at *
      obtain ⟨l1, l2, l3, l4, l5, l6, l7⟩ := hr.ln l hmem
      have hD := Dry_ok r j hL
      rw [hsp] at hD
      have d0 := dryAt_ok r hr l ⟨l3, l4⟩ r.R l.lo.toNat b1 (by omega)
      have d1 := dryAt_ok r hr l ⟨l3, l4⟩ (r.R ||| r.Pe) l.hi.toNat (Nat.or_lt_two_pow (n := 12) b1 b2) (by omega)
      rw [← hR, show ((l.lo.toNat : Nat) : Int) = l.lo by omega, show tm (dr r.S r.R) r.H l.from_.toNat l.lo.toNat = r.tm false l from rfl] at d0
      rw [show ((l.hi.toNat : Nat) : Int) = l.hi by omega, show tm (dr r.S (r.R ||| r.Pe)) r.H l.from_.toNat l.hi.toNat = r.tm true l from rfl] at d1
      have t0 := tm_or (r.f false) r.H l.from_.toNat (l.wet false)
      have t1 := tm_or (r.f true) r.H l.from_.toNat (l.wet true)
      rw [show tm (r.f false) r.H l.from_.toNat (l.wet false) = r.tm false l from rfl] at t0
      rw [show tm (r.f true) r.H l.from_.toNat (l.wet true) = r.tm true l from rfl] at t1
      have hw1 : IntKind.i64.wrap ((j : Int) + 1) = ((j + 1 : Nat) : Int) := by rw [wrap_id (by omega) (by omega)]; omega
      have bd0 := leftT_bd (r.tm false) hour (r.lines.take j) fun l hl => by have := hr.ln l (List.mem_of_mem_take hl); omega
      have bd1 := leftT_bd (r.tm true) hour (r.lines.take j) fun l hl => by have := hr.ln l (List.mem_of_mem_take hl); omega
      rw [List.length_take] at bd0 bd1
      rw [s0, s1]
      generalize leftT (r.tm false) (r.lines.take j) hour = A0 at *
      generalize leftT (r.tm true) (r.lines.take j) hour = A1 at *
      generalize r.tm false l = T0 at *
      generalize r.tm true l = T1 at *
      have w0 : IntKind.i64.wrap (A0 + l.many) = A0 + l.many := wrap_id (by omega) (by omega)
      have w1 : IntKind.i64.wrap (A1 + l.many) = A1 + l.many := wrap_id (by omega) (by omega)
      have htl : tLn l = .agg [vi l.many, vi l.from_, vi l.lo, vi l.hi] := rfl
      rw [htl] at d0 d1
      unfold tRa at d0 d1 hD
      unfold tw3 ra7 at d0 d1 hD ⊢
      simp only [List.cons_append, List.nil_append] at d0 d1 hD
      have gt0 : decide ((T0 : Int) > hour) = decide (hour < T0) := decide_eq_decide.2 (by omega)
      have gt1 : decide ((T1 : Int) > hour) = decide (hour < T1) := decide_eq_decide.2 (by omega)
      have fin : ∀ (s' : St), lk s'.env 45 = .t (vi (j + 1 : Nat)) → lk s'.env 44 = .t (vi r.lines.length) → lk s'.env 43 = .t (.slice 4 (r.lines.map tLn)) → lk s'.env 2 = .ptr 0 0 → lk s'.env 5 = .t (vi hour) → lk s'.env 6 = .t (vi (A0 + if hour < T0 then l.many else 0)) → lk s'.env 7 = .t (vi (A1 + if hour < T1 then l.many else 0)) →
          s'.σ[0]? = some (.cells ((tw3 r.tw ++ ra7 r).map .t)) → s'.df = [] → s'.k = 0 → ∃ s'', Sub 0 s' s'' ∧ s'' = { env := [(45, .t (vi (j + 1 : Nat))), (44, .t (vi r.lines.length)), (43, .t (.slice 4 (r.lines.map tLn))), (2, .ptr 0 0), (5, .t (vi hour)), (6, .t (vi (A0 + if hour < T0 then l.many else 0))), (7, .t (vi (A1 + if hour < T1 then l.many else 0)))], σ := [.cells ((tw3 r.tw ++ ra7 r).map .t)], df := [], k := 0 } := by
        intro s' h1 h2 h3 h4 h5 h6 h7 h8 h9 h10
        refine ⟨_, Sub.gc [0] [45, 44, 43, 2, 5, 6, 7] (by unfold gcOK; simp; exact (List.getElem?_eq_some_iff.1 h8).1) rfl, ?_⟩
        refine St.gc_mk ?_ ?_ (by rw [h9]; rfl) h10
        · simp only [List.map_cons, List.map_nil, h1, h2, h3, h4, h5, h6, h7]; rfl
        · unfold σgc
          rw [List.map_cons, List.map_nil, List.getD_eq_getElem?_getD, h8]
          show [AO.cells (((tw3 r.tw ++ ra7 r).map E.t).map (E.gc _ _ _))] = _
          rw [gc_row]
      by_cases hT1 : T1 ≤ r.H
      · rw [if_pos hT1] at hD
        simp only [spanE, tS] at hD
        have h99 : decide ((T1 : Int) < 99) = true := decide_eq_true (by omega)
        simp only [go_sem, Nat.reduceEqDiff, Nat.reduceAdd, Nat.reduceLeDiff, undef, List.getElem?_map, hx, Option.map_some, htl, hor]
        refine ACallL.fresh1 d0 rfl ?_
        simp only [go_sem, Nat.reduceEqDiff, Nat.reduceAdd, Nat.reduceLeDiff]
        refine ACallL.fresh1 d1 rfl ?_
        simp only [go_sem, Nat.reduceEqDiff, Nat.reduceAdd, Nat.reduceLeDiff]
        refine ACallL.fresh1 hD rfl ?_
        simp only [go_sem, Nat.reduceEqDiff, Nat.reduceAdd, Bool.not_true, undef, beq_self_eq_true, h99]
        refine spanL ?_
        simp only [tS, go_sem, Nat.reduceEqDiff, Nat.reduceAdd, Bool.not_true, undef, beq_self_eq_true, Bool.and_true, toKey, cellKeys, cellKey, kEq, cellEq, gt0]
        cases c0 : decide (hour < T0)
        · have n0 : ¬ hour < T0 := of_decide_eq_false c0
          cases c1 : decide (hour < T1)
          · have n1 : ¬ hour < T1 := of_decide_eq_false c1
            simp only [go_sem, Nat.reduceEqDiff, c1, gt1, hw1]
            exact fin _ rfl rfl rfl rfl rfl (by rw [if_neg n0, Int.add_zero]; rfl) (by rw [if_neg n1, Int.add_zero]; rfl) rfl rfl rfl
          · have n1 : hour < T1 := of_decide_eq_true c1
            simp only [go_sem, Nat.reduceEqDiff, Nat.reduceAdd, Nat.reduceLeDiff, c1, gt1, hw1, w1]
            exact fin _ rfl rfl rfl rfl rfl (by rw [if_neg n0, Int.add_zero]; rfl) (by rw [if_pos n1]; rfl) rfl rfl rfl
        · have n0 : hour < T0 := of_decide_eq_true c0
          cases c1 : decide (hour < T1)
          · have n1 : ¬ hour < T1 := of_decide_eq_false c1
            simp only [go_sem, Nat.reduceEqDiff, Nat.reduceAdd, Nat.reduceLeDiff, c1, gt1, hw1, w0]
            exact fin _ rfl rfl rfl rfl rfl (by rw [if_pos n0]; rfl) (by rw [if_neg n1, Int.add_zero]; rfl) rfl rfl rfl
          · have n1 : hour < T1 := of_decide_eq_true c1
            simp only [go_sem, Nat.reduceEqDiff, Nat.reduceAdd, Nat.reduceLeDiff, c1, gt1, hw1, w0, w1]
            exact fin _ rfl rfl rfl rfl rfl (by rw [if_pos n0]; rfl) (by rw [if_pos n1]; rfl) rfl rfl rfl
      · rw [if_neg hT1] at hD
        simp only [spanE, tS] at hD
        have h99 : decide ((T1 : Int) < 99) = false := decide_eq_false (by omega)
        simp only [go_sem, Nat.reduceEqDiff, Nat.reduceAdd, Nat.reduceLeDiff, undef, List.getElem?_map, hx, Option.map_some, htl, hor]
        refine ACallL.fresh1 d0 rfl ?_
        simp only [go_sem, Nat.reduceEqDiff, Nat.reduceAdd, Nat.reduceLeDiff]
        refine ACallL.fresh1 d1 rfl ?_
        simp only [go_sem, Nat.reduceEqDiff, Nat.reduceAdd, Nat.reduceLeDiff]
        refine ACallL.fresh1 hD rfl ?_
        simp only [go_sem, Nat.reduceEqDiff, Nat.reduceAdd, Bool.not_true, Int.reduceBEq, undef, beq_self_eq_true, h99, gt0]
        cases c0 : decide (hour < T0)
        · have n0 : ¬ hour < T0 := of_decide_eq_false c0
          cases c1 : decide (hour < T1)
          · have n1 : ¬ hour < T1 := of_decide_eq_false c1
            simp only [go_sem, Nat.reduceEqDiff, c1, gt1, hw1]
            exact fin _ rfl rfl rfl rfl rfl (by rw [if_neg n0, Int.add_zero]; rfl) (by rw [if_neg n1, Int.add_zero]; rfl) rfl rfl rfl
          · have n1 : hour < T1 := of_decide_eq_true c1
            simp only [go_sem, Nat.reduceEqDiff, Nat.reduceAdd, Nat.reduceLeDiff, c1, gt1, hw1, w1]
            exact fin _ rfl rfl rfl rfl rfl (by rw [if_neg n0, Int.add_zero]; rfl) (by rw [if_pos n1]; rfl) rfl rfl rfl
        · have n0 : hour < T0 := of_decide_eq_true c0
          cases c1 : decide (hour < T1)
          · have n1 : ¬ hour < T1 := of_decide_eq_false c1
            simp only [go_sem, Nat.reduceEqDiff, Nat.reduceAdd, Nat.reduceLeDiff, c1, gt1, hw1, w0]
            exact fin _ rfl rfl rfl rfl rfl (by rw [if_pos n0]; rfl) (by rw [if_neg n1, Int.add_zero]; rfl) rfl rfl rfl
          · have n1 : hour < T1 := of_decide_eq_true c1
            simp only [go_sem, Nat.reduceEqDiff, Nat.reduceAdd, Nat.reduceLeDiff, c1, gt1, hw1, w0, w1]
            exact fin _ rfl rfl rfl rfl rfl (by rw [if_pos n0]; rfl) (by rw [if_pos n1]; rfl) rfl rfl rfl
    · rintro s rfl
      rw [List.take_length]
      simp only [go_sem, Nat.reduceEqDiff]
      exact ⟨⟨rfl, rfl, rfl, rfl, rfl⟩, rfl, rfl⟩
  rintro ⟨env, σ, df, k⟩ ⟨⟨q2, q5, hσ, hdf, hk⟩, q6, q7⟩
  simp only at q2 q5 q6 q7 hσ hdf hk
  subst hσ hdf hk
  have c1 := Wet_ok r hour hL
  have c2 := Ready_ok r hour hL
  have c3 := All_ok r.tw
  have c4 := Wet_ok r ((r.H + 1 : Nat) : Int) hL
  have c5 := Wet_ok r (-1) hL
  have c6 := Dry_ok r r.lines.length hL
  have c7 := Dry_ok r (-1) hL
  rw [specWet_at hr hok hh] at c1
  rw [specReady_at hr hok hh] at c2
  rw [specAll_at hr] at c3
  rw [specWet_no hok (by omega)] at c4 c5
  rw [specDry_no hok (by omega)] at c6 c7
  simp only [spanE, tS] at c1 c4 c5 c6 c7
  have e2 : IntKind.i64.wrap (r.hours + 1) = ((r.H + 1 : Nat) : Int) := by rw [g3, wrap_id (by omega) (by omega)]; omega
  have hst := hr.stock
  have hl0 := r.left_bd hr false hour
  have hl1 := r.left_bd hr true hour
  have hrd : r.ready hour = (r.stock - (r.all.2 + r.left true hour), r.stock - (r.all.1 + r.left false hour)) := rfl
  cases hT : isT r.tw
  · rw [hT, if_neg (by decide)] at c2 c3
    simp only [spanE, tS] at c2 c3
    generalize r.left false hour = L0 at *
    generalize r.left true hour = L1 at *
    unfold tRa at c1 c2 c4 c5 c6 c7
    unfold tw3 at c3
    unfold tw3 ra7 at c1 c2 c4 c5 c6 c7 ⊢
    simp only [List.cons_append, List.nil_append] at c1 c2 c4 c5 c6 c7
    simp only [go_sem, Nat.reduceEqDiff, Nat.reduceAdd, q2, q5]
    refine ACallL.fresh1 c1 rfl ?_
    simp only [go_sem, Nat.reduceEqDiff, Nat.reduceAdd, undef, q2, q5]
    refine ACallL.fresh1 c2 rfl ?_
    simp only [go_sem, Nat.reduceEqDiff, Nat.reduceAdd, Nat.reduceLeDiff, undef, q2]
    refine ACallL.fresh1 c3 rfl ?_
    simp only [go_sem, Nat.reduceEqDiff, Nat.reduceAdd, Nat.reduceLeDiff, undef, q2, e2]
    refine ACallL.fresh1 c4 rfl ?_
    simp only [go_sem, Nat.reduceEqDiff, Nat.reduceAdd, Int.reduceNeg, undef, q2]
    refine ACallL.fresh1 c5 rfl ?_
    simp only [go_sem, Nat.reduceEqDiff, Nat.reduceAdd, Nat.reduceLeDiff, undef, q2, List.length_map]
    refine ACallL.fresh1 c6 rfl ?_
    simp only [go_sem, Nat.reduceEqDiff, Nat.reduceAdd, Int.reduceNeg, undef, q2]
    refine ACallL.fresh1 c7 rfl ?_
    simp only [go_sem, Nat.reduceEqDiff, Nat.reduceAdd, undef, beq_self_eq_true, bne_self_eq_false, q6, q7]
    refine spanL ?_
    simp only [tS, go_sem, Nat.reduceEqDiff, Nat.reduceAdd, Bool.not_true, Int.reduceBNe, undef, beq_self_eq_true, bne_self_eq_false, Bool.and_true, q2, toKey, cellKeys, cellKey, kEq, cellEq]
    refine aliveL ?_
    simp only [go_sem, Nat.reduceEqDiff, Nat.reduceAdd, Bool.not_true, undef]
    exact finL_ret [] ⟨rfl, rfl, rfl, rfl, _, rfl, ret_mk rfl⟩
  rw [hT, if_pos rfl] at c2 c3
  have hab := r.all_bd hr hT
  rw [hrd] at c2
  generalize r.left false hour = L0 at *
  generalize r.left true hour = L1 at *
  generalize r.all = A at *
  obtain ⟨A0, A1⟩ := A
  simp only at hab c2 c3
  simp only [spanE, tS] at c2 c3
  have w1 : IntKind.i64.wrap (r.stock - A1) = r.stock - A1 := wrap_id (by omega) (by omega)
  have w2 : IntKind.i64.wrap (r.stock - A1 - L1) = r.stock - (A1 + L1) := by rw [wrap_id (by omega) (by omega)]; omega
  have w3 : IntKind.i64.wrap (r.stock - A0) = r.stock - A0 := wrap_id (by omega) (by omega)
  have w4 : IntKind.i64.wrap (r.stock - A0 - L0) = r.stock - (A0 + L0) := by rw [wrap_id (by omega) (by omega)]; omega
  unfold tRa at c1 c2 c4 c5 c6 c7
  unfold tw3 at c3
  unfold tw3 ra7 at c1 c2 c4 c5 c6 c7 ⊢
  simp only [List.cons_append, List.nil_append] at c1 c2 c4 c5 c6 c7
  simp only [go_sem, Nat.reduceEqDiff, Nat.reduceAdd, q2, q5]
  refine ACallL.fresh1 c1 rfl ?_
  simp only [go_sem, Nat.reduceEqDiff, Nat.reduceAdd, undef, q2, q5]
  refine ACallL.fresh1 c2 rfl ?_
  simp only [go_sem, Nat.reduceEqDiff, Nat.reduceAdd, Nat.reduceLeDiff, undef, q2]
  refine ACallL.fresh1 c3 rfl ?_
  simp only [go_sem, Nat.reduceEqDiff, Nat.reduceAdd, Nat.reduceLeDiff, undef, q2, e2]
  refine ACallL.fresh1 c4 rfl ?_
  simp only [go_sem, Nat.reduceEqDiff, Nat.reduceAdd, Int.reduceNeg, undef, q2]
  refine ACallL.fresh1 c5 rfl ?_
  simp only [go_sem, Nat.reduceEqDiff, Nat.reduceAdd, Nat.reduceLeDiff, undef, q2, List.length_map]
  refine ACallL.fresh1 c6 rfl ?_
  simp only [go_sem, Nat.reduceEqDiff, Nat.reduceAdd, Int.reduceNeg, undef, q2]
  refine ACallL.fresh1 c7 rfl ?_
  simp only [go_sem, Nat.reduceEqDiff, Nat.reduceAdd, undef, beq_self_eq_true, bne_self_eq_false, q6, q7]
  refine spanL ?_
  simp only [tS, go_sem, Nat.reduceEqDiff, Nat.reduceAdd, Nat.reduceLeDiff, Bool.not_true, undef, beq_self_eq_true, bne_self_eq_false, Bool.and_true, q2, q6, q7, toKey, cellKeys, cellKey, kEq, cellEq, w1, w2, w3, w4]
  refine spanL ?_
  simp only [tS, go_sem, Nat.reduceEqDiff, Nat.reduceAdd, Nat.reduceLeDiff, Bool.not_true, undef, beq_self_eq_true, Bool.and_true, q2, toKey, cellKeys, cellKey, kEq, cellEq]
  refine aliveL ?_
  simp only [go_sem, Nat.reduceEqDiff, Nat.reduceAdd, Nat.reduceLeDiff, Bool.not_true, undef, beq_self_eq_true, Bool.and_true, q2, toKey, cellKeys, cellKey, kEq, cellEq]
  exact finL_ret [] ⟨rfl, rfl, rfl, rfl, _, rfl, ret_mk rfl⟩
end Go.Proofs.Ytcpkkjbkbdmopaa
