/- Proved here: laws that the statements need (FlC33, FlX7, FlX8). No conditions but those that each law states. -/
import Derived.Test.YtkbjodmpmmnhgaaDoorFL
import Derived.Test.YtkbjodmpmmnhgaaDoorProg
import Derived.Test.YtkbjodmpmmnhgaaDoorMN

set_option linter.unusedSimpArgs false
set_option linter.unusedVariables false

/- Compiled code of functions, printed by program; each is checked to be the program's. No conditions. -/
namespace Go.Proofs.YtkbjodmpmmnhgaaDoor
open Go Go.Ab
/-- dipworks/dipworkslaw10.raised -/
def c33 : AC :=
 .seq (.reg [⟨(some 2), none, .box (.tmp 0)⟩,
 ⟨(some 4), none, .mov (.lit (.int .i64 0))⟩])
 (.seq (.reg [⟨(some 5), none, .mov (.lit (.int .i64 0))⟩,
 ⟨(some 6), none, .mov (.lit (.bool false))⟩])
 (.seq (.seq (.reg [⟨(some 11), none, .mov (.tmp 1)⟩,
 ⟨(some 12), none, .len (.tmp 11)⟩,
 ⟨(some 13), none, .mov (.lit (.int .i64 0))⟩])
 (.block 0 (.loop (.seq (.reg [⟨(some 14), none, .bin .lss (.tmp 13) (.tmp 12)⟩])
 (.seq (.cond (.tmp 14) (.skip)
 (.exit 0))
 (.seq (.block 1 (.seq (.reg [⟨(some 15), none, .mov (.tmp 13)⟩,
 ⟨(some 16), none, .iaddr 1 (.tmp 11) (.tmp 13)⟩,
 ⟨(some 17), none, .load false 1 (.tmp 16)⟩,
 ⟨(some 7), none, .mov (.tmp 15)⟩,
 ⟨(some 8), none, .mov (.tmp 17)⟩])
 (.seq (.reg [⟨(some 18), none, .mov (.tmp 6)⟩,
 ⟨(some 19), none, .mov (.tmp 18)⟩,
 ⟨(some 20), (some (19, false)), .mov (.tmp 8)⟩,
 ⟨(some 21), (some (19, false)), .bin .eql (.tmp 20) (.lit (.int .i64 2))⟩,
 ⟨(some 22), none, .pick (.tmp 19) (.lit (.bool true)) (.tmp 21)⟩,
 ⟨(some 6), none, .mov (.tmp 22)⟩])
 (.seq (.seq (.reg [⟨(some 23), none, .mov (.tmp 6)⟩,
 ⟨(some 24), none, .un .not (.tmp 23)⟩])
 (.cond (.tmp 24) (.exit 1)
 (.skip)))
 (.seq (.reg [⟨(some 25), none, .mov (.tmp 5)⟩,
 ⟨(some 26), none, .mov (.tmp 7)⟩,
 ⟨(some 27), none, .bin .shl (.lit (.int .i64 1)) (.tmp 26)⟩,
 ⟨(some 28), none, .bin .or (.tmp 25) (.tmp 27)⟩,
 ⟨(some 5), none, .mov (.tmp 28)⟩])
 (.seq (.reg [⟨(some 9), none, .mov (.lit (.int .i64 0))⟩])
 (.seq (.seq (.reg [⟨(some 29), none, .mov (.tmp 7)⟩,
 ⟨(some 10), none, .mov (.tmp 29)⟩])
 (.block 2 (.loop (.seq (.seq (.reg [⟨(some 30), none, .mov (.tmp 10)⟩,
 ⟨(some 31), none, .bin .geq (.tmp 30) (.lit (.int .i64 0))⟩,
 ⟨(some 32), none, .mov (.tmp 31)⟩,
 ⟨(some 33), (some (32, true)), .mov (.tmp 1)⟩,
 ⟨(some 34), (some (32, true)), .mov (.tmp 10)⟩,
 ⟨(some 35), (some (32, true)), .iaddr 1 (.tmp 33) (.tmp 34)⟩,
 ⟨(some 36), (some (32, true)), .load false 1 (.tmp 35)⟩,
 ⟨(some 37), (some (32, true)), .bin .eql (.tmp 36) (.lit (.int .i64 0))⟩,
 ⟨(some 38), none, .pick (.tmp 32) (.tmp 37) (.lit (.bool false))⟩,
 ⟨(some 39), none, .mov (.tmp 38)⟩,
 ⟨(some 40), (some (39, true)), .mov (.tmp 5)⟩,
 ⟨(some 41), (some (39, true)), .mov (.tmp 10)⟩,
 ⟨(some 42), (some (39, true)), .bin .shr (.tmp 40) (.tmp 41)⟩,
 ⟨(some 43), (some (39, true)), .bin .and (.tmp 42) (.lit (.int .i64 1))⟩,
 ⟨(some 44), (some (39, true)), .bin .eql (.tmp 43) (.lit (.int .i64 1))⟩,
 ⟨(some 45), none, .pick (.tmp 39) (.tmp 44) (.lit (.bool false))⟩])
 (.cond (.tmp 45) (.skip)
 (.exit 2)))
 (.seq (.block 3 (.reg [⟨(some 48), none, .mov (.tmp 9)⟩,
 ⟨(some 49), none, .bin .add (.tmp 48) (.lit (.int .i64 1))⟩,
 ⟨(some 9), none, .mov (.tmp 49)⟩]))
 (.reg [⟨(some 46), none, .mov (.tmp 10)⟩,
 ⟨(some 47), none, .bin .sub (.tmp 46) (.lit (.int .i64 1))⟩,
 ⟨(some 10), none, .mov (.tmp 47)⟩]))))))
 (.reg [⟨(some 50), none, .mov (.tmp 9)⟩,
 ⟨(some 51), none, .faddr 2 (.tmp 2)⟩,
 ⟨(some 52), none, .load false 1 (.tmp 51)⟩,
 ⟨(some 53), none, .bin .lss (.tmp 50) (.tmp 52)⟩,
 ⟨(some 6), none, .mov (.tmp 53)⟩]))))))))
 (.reg [⟨(some 54), none, .bin .add (.tmp 13) (.lit (.int .i64 1))⟩,
 ⟨(some 13), none, .mov (.tmp 54)⟩])))))))
 (.seq (.reg [⟨(some 55), none, .mov (.tmp 5)⟩,
 ⟨(some 4), none, .mov (.tmp 55)⟩])
 (.ret))))
theorem k33 : FnC Tryd.prog 33 56 [] [] [.tmp 4] c33 2 := ⟨Tryd.f33, _, Tryd.func33, rfl, by decide, rfl, by decide, by kernel_rfl, by kernel_rfl⟩
end Go.Proofs.YtkbjodmpmmnhgaaDoor

/- The law's own 'raised'. -/
namespace Go.Proofs.YtkbjodmpmmnhgaaDoor
open Go Go.Ab

theorem upsP_app (q : Int) : ∀ (xs ys : List Nat) (p : Pole), upsP q p (xs ++ ys) = upsP q p xs ++ upsP q (poleA q p xs) ys
  | [], _, _ => rfl
  | x :: xs, ys, p => by rw [List.cons_append, upsP_cons, upsP_app q xs, upsP_cons]; rfl
theorem upAt_at (f : Fl) (ks : List Nat) {j : Nat} (hj : j < ks.length) : upAt f ks j = (hourF f.quiet (poleA f.quiet pole0 (ks.take j)) ks[j]).2 := by
  have h1 : ks = ks.take j ++ ks[j] :: ks.drop (j + 1) := by rw [← List.drop_eq_getElem_cons hj, List.take_append_drop]
  have h2 : ups f ks = upsP f.quiet pole0 (ks.take j) ++ upsP f.quiet (poleA f.quiet pole0 (ks.take j)) (ks[j] :: ks.drop (j + 1)) := by
    conv => lhs; rw [ups, h1]
    exact upsP_app _ _ _ _
  have hl : (upsP f.quiet pole0 (ks.take j)).length = j := by rw [upsP_len, List.length_take]; omega
  unfold upAt
  rw [h2, List.getD_eq_getElem?_getD, List.getElem?_append_right (by omega), hl, Nat.sub_self, upsP_cons]
  rfl
/-- How many calm hours lie behind the pole, one after the other, in which it was up. -/
def runC (f : Fl) (ks : List Nat) : Nat → Nat
  | 0 => 0
  | j + 1 => if ks[j]? = some 0 ∧ upAt f ks j = true then runC f ks j + 1 else 0
theorem runC_le (f : Fl) (ks : List Nat) : ∀ j, runC f ks j ≤ j
  | 0 => Nat.le_refl _
  | j + 1 => by
    have := runC_le f ks j
    simp only [runC]; split <;> omega
abbrev poleJ (f : Fl) (ks : List Nat) (j : Nat) : Pole := poleA f.quiet pole0 (ks.take j)
theorem poleJ_succ (f : Fl) (ks : List Nat) {j : Nat} (hj : j < ks.length) : poleJ f ks (j + 1) = (hourF f.quiet (poleJ f ks j) ks[j]).1 := by
  unfold poleJ
  rw [List.take_succ_eq_append_getElem hj, poleA_snoc]
/-- While the flag is up, the pole counts those hours, and they are less than Quiet. -/
theorem pole_run (f : Fl) (hq : 1 ≤ f.quiet) (ks : List Nat) (hk : ∀ k ∈ ks, k < 3) : ∀ j, j ≤ ks.length → (poleJ f ks j).1 = true → (poleJ f ks j).2 = runC f ks j ∧ (poleJ f ks j).2 < f.quiet
  | 0, _, h => by simp [poleJ, poleA, pole0] at h
  | j + 1, hj, h => by
    have hj' : j < ks.length := by omega
    have ih := pole_run f hq ks hk j (by omega)
    have hu := upAt_at f ks hj'
    have hx := hk _ (List.getElem_mem hj')
    have hg : ks[j]? = some ks[j] := List.getElem?_eq_getElem hj'
    have hR : runC f ks (j + 1) = if ks[j]? = some 0 ∧ upAt f ks j = true then runC f ks j + 1 else 0 := rfl
    rw [poleJ_succ f ks hj'] at h ⊢
    rw [hg] at hR
    generalize runC f ks (j + 1) = r at *
    generalize ks[j] = x at *
    change upAt f ks j = (hourF f.quiet (poleJ f ks j) x).2 at hu
    generalize poleJ f ks j = p at *
    obtain ⟨up, calm⟩ := p
    simp only at ih
    have : x = 0 ∨ x = 1 ∨ x = 2 := by omega
    rcases this with rfl | rfl | rfl
    · cases up
      · simp [hourF] at h
      · obtain ⟨i1, i2⟩ := ih rfl
        by_cases c : calm + 1 = f.quiet
        · simp [hourF, c] at h
        · have e : hourF f.quiet (true, calm) ((0 : Nat) : Int) = ((true, calm + 1), true) := by simp [hourF, c]
          rw [e] at hu ⊢
          simp only at hu ⊢
          rw [if_pos ⟨rfl, hu⟩] at hR
          omega
    · have e : (hourF f.quiet (up, calm) ((1 : Nat) : Int)).1 = (up, 0) := by simp [hourF]
      rw [e]
      rw [if_neg (by simp)] at hR
      subst hR
      exact ⟨rfl, by simp only; omega⟩
    · have e : (hourF f.quiet (up, calm) ((2 : Nat) : Int)).1 = (true, 0) := by simp [hourF]
      rw [e]
      rw [if_neg (by simp)] at hR
      subst hR
      exact ⟨rfl, by simp only; omega⟩
/-- What becomes of the pole, told by the run. -/
theorem pole_next (f : Fl) (hq : 1 ≤ f.quiet) (ks : List Nat) (hk : ∀ k ∈ ks, k < 3) {j : Nat} (hj : j < ks.length) :
    upAt f ks j = ((poleJ f ks j).1 || ks[j] == 2) ∧ (poleJ f ks (j + 1)).1 = (upAt f ks j && decide ((runC f ks (j + 1) : Int) < f.quiet)) := by
  have ih := pole_run f hq ks hk j (by omega)
  have hu := upAt_at f ks hj
  have hx := hk _ (List.getElem_mem hj)
  have hg : ks[j]? = some ks[j] := List.getElem?_eq_getElem hj
  have hR : runC f ks (j + 1) = if ks[j]? = some 0 ∧ upAt f ks j = true then runC f ks j + 1 else 0 := rfl
  rw [poleJ_succ f ks hj]
  rw [hg] at hR
  generalize runC f ks (j + 1) = r at *
  generalize ks[j] = x at *
  change upAt f ks j = (hourF f.quiet (poleJ f ks j) x).2 at hu
  generalize poleJ f ks j = p at *
  obtain ⟨up, calm⟩ := p
  simp only at ih
  have hq' : decide ((0 : Int) < f.quiet) = true := by simp; omega
  have : x = 0 ∨ x = 1 ∨ x = 2 := by omega
  rcases this with rfl | rfl | rfl
  · cases up
    · have e : hourF f.quiet (false, calm) ((0 : Nat) : Int) = ((false, 0), false) := by simp [hourF]
      rw [e] at hu ⊢
      simp only at hu ⊢
      rw [hu]
      exact ⟨rfl, rfl⟩
    · obtain ⟨i1, i2⟩ := ih rfl
      by_cases c : calm + 1 = f.quiet
      · have e : hourF f.quiet (true, calm) ((0 : Nat) : Int) = ((false, 0), true) := by simp [hourF, c]
        rw [e] at hu ⊢
        simp only at hu ⊢
        rw [if_pos ⟨rfl, hu⟩] at hR
        subst hR
        rw [hu]
        refine ⟨rfl, ?_⟩
        have : decide (((runC f ks j + 1 : Nat) : Int) < f.quiet) = false := by simp; omega
        rw [this]; rfl
      · have e : hourF f.quiet (true, calm) ((0 : Nat) : Int) = ((true, calm + 1), true) := by simp [hourF, c]
        rw [e] at hu ⊢
        simp only at hu ⊢
        rw [if_pos ⟨rfl, hu⟩] at hR
        subst hR
        rw [hu]
        refine ⟨rfl, ?_⟩
        have : decide (((runC f ks j + 1 : Nat) : Int) < f.quiet) = true := by simp; omega
        rw [this]; rfl
  · have e : hourF f.quiet (up, calm) ((1 : Nat) : Int) = ((up, 0), up) := by simp [hourF]
    rw [e] at hu ⊢
    simp only at hu ⊢
    rw [if_neg (by simp)] at hR
    subst hR
    rw [hu]
    refine ⟨by simp, ?_⟩
    rw [show ((0 : Nat) : Int) = 0 from rfl, hq', Bool.and_true]
  · have e : hourF f.quiet (up, calm) ((2 : Nat) : Int) = ((true, 0), true) := by simp [hourF]
    rw [e] at hu ⊢
    simp only at hu ⊢
    rw [if_neg (by simp)] at hR
    subst hR
    rw [hu]
    refine ⟨by simp, ?_⟩
    rw [show ((0 : Nat) : Int) = 0 from rfl, hq', Bool.and_true]
/-- The set of the hours in which the flag is up. -/
abbrev upM (f : Fl) (ks : List Nat) : Nat := maskOf (upAt f ks) f.hs.length
end Go.Proofs.YtkbjodmpmmnhgaaDoor

/- The law's own 'raised', walked. -/
namespace Go.Proofs.YtkbjodmpmmnhgaaDoor
open Go Go.Ab

set_option maxRecDepth 8000 in
set_option maxHeartbeats 4000000 in
theorem raisedL_ok (f : Fl) (hq : 1 ≤ f.quiet) (ks : List Nat) (hl : ks.length ≤ 40) (hk : ∀ k ∈ ks, k < 3) : ACall Tryd.prog 33 [.t (.agg (fl5 f)), .t (tK ks)] [] (ret (vi (maskOf (upAt f ks) ks.length : Nat))) := by
  refine ACall.walk k33 ?_
  unfold c33 fl5 tK
  simp only [go_sem, Nat.reduceEqDiff, Nat.reduceAdd, Nat.reduceSub, Nat.reduceMul, Nat.reduceLT, Nat.reduceLeDiff, Nat.reduceMod, Nat.reduceDiv, Int.reduceToNat, Int.reduceLT, Int.reduceLE, Bool.not_true, Bool.not_false, reduceIte, Int.reduceEq, Int.reduceBEq, Int.reduceBNe, Int.reduceGT, Int.reduceGE, Int.reduceNeg, Int.reduceAdd, Int.reduceSub, Nat.reduceBEq, decide_true, decide_false, undef, beq_self_eq_true, bne_self_eq_false, Bool.and_true, Bool.true_and, Bool.and_false, Bool.false_and, Bool.or_true, Bool.true_or, Bool.or_false, Bool.false_or, List.length_map]
  refine awpL_for (i := 13) (L := 12) ks.length (fun j s => s = { env := [(13, .t (vi j)), (12, .t (vi ks.length)), (11, .t (tK ks)), (1, .t (tK ks)), (2, .ptr 0 0), (5, .t (vi (maskOf (upAt f ks) j : Nat))), (6, .t (vb (poleJ f ks j).1))], σ := [.cells ((fl5 f).map .t)] }) ?_ ⟨_, Sub.gc [0] [13, 12, 11, 1, 2, 5, 6] rfl rfl, rfl⟩ ?_ ?_
  · rintro k s rfl; exact ⟨rfl, rfl⟩
  · rintro j s hj rfl
    have hg : ks[j]? = some ks[j] := List.getElem?_eq_getElem hj
    have hw : IntKind.i64.wrap ((j : Int) + 1) = ((j + 1 : Nat) : Int) := by rw [wrap_id (by omega) (by omega)]; omega
    have hx := hk _ (List.getElem_mem hj)
    obtain ⟨hu, hp⟩ := pole_next f hq ks hk hj
    have hm : maskOf (upAt f ks) (j + 1) = if upAt f ks j then maskOf (upAt f ks) j ||| 2 ^ j else maskOf (upAt f ks) j := rfl
    have hml := maskOf_lt (upAt f ks) j
    have hmb := maskOf_bit (upAt f ks) (j + 1)
    have hml1 := maskOf_lt (upAt f ks) (j + 1)
    have hpj : 2 ^ j ≤ 1099511627776 := Nat.pow_le_pow_right (n := 2) (by decide) (show j ≤ 40 by omega)
    have hpj1 : 2 ^ (j + 1) ≤ 2199023255552 := Nat.pow_le_pow_right (n := 2) (by decide) (show j + 1 ≤ 41 by omega)
    have sj := shl_one (i := j) (by omega)
    have hor := bits_or (a := maskOf (upAt f ks) j) (b := 2 ^ j) (by omega) (by omega)
    have hj0 : ((j : Int) < 0) = False := by simp
    have hx2 : ((ks[j] : Int) == 2) = (ks[j] == 2) := by
      generalize ks[j] = x at *
      have : x = 0 ∨ x = 1 ∨ x = 2 := by omega
      rcases this with rfl | rfl | rfl <;> rfl
    have hjl : (j : Int) < (ks.length : Int) := by omega
    cases hU : upAt f ks j
    · rw [hU] at hu hm hp
      have hpf : (poleJ f ks j).1 = false := by cases h : (poleJ f ks j).1 <;> simp_all
      have hxf : (ks[j] == 2) = false := by cases h : (ks[j] == 2) <;> simp_all
      rw [hxf] at hx2
      simp only [fl5, tK, go_sem, Nat.reduceEqDiff, Nat.reduceAdd, Nat.reduceSub, Nat.reduceMul, Nat.reduceLT, Nat.reduceLeDiff, Nat.reduceMod, Nat.reduceDiv, Int.reduceToNat, Int.reduceLT, Int.reduceLE, Bool.not_true, Bool.not_false, reduceIte, Int.reduceEq, Int.reduceBEq, Int.reduceBNe, Int.reduceGT, Int.reduceGE, Int.reduceNeg, Int.reduceAdd, Int.reduceSub, Nat.reduceBEq, decide_true, decide_false, undef, beq_self_eq_true, bne_self_eq_false, Bool.and_true, Bool.true_and, Bool.and_false, Bool.false_and, Bool.or_true, Bool.true_or, Bool.or_false, Bool.false_or, undef, List.length_map, List.getElem?_map, hg, Option.map_some, hpf, hx2, hw]
      refine ⟨_, Sub.gc [0] [13, 12, 11, 1, 2, 5, 6] rfl rfl, ?_⟩
      rw [hm, hp]
      rfl
    · rw [hU] at hu hm hp
      rw [if_pos rfl] at hm
      rw [← hm] at hor
      rw [Bool.true_and] at hp
      simp only [fl5, tK, go_sem, Nat.reduceEqDiff, Nat.reduceAdd, Nat.reduceSub, Nat.reduceMul, Nat.reduceLT, Nat.reduceLeDiff, Nat.reduceMod, Nat.reduceDiv, Int.reduceToNat, Int.reduceLT, Int.reduceLE, Bool.not_true, Bool.not_false, reduceIte, Int.reduceEq, Int.reduceBEq, Int.reduceBNe, Int.reduceGT, Int.reduceGE, Int.reduceNeg, Int.reduceAdd, Int.reduceSub, Nat.reduceBEq, decide_true, decide_false, undef, beq_self_eq_true, bne_self_eq_false, Bool.and_true, Bool.true_and, Bool.and_false, Bool.false_and, Bool.or_true, Bool.true_or, Bool.or_false, Bool.false_or, undef, List.length_map, List.getElem?_map, hg, Option.map_some]
      cases hpu : (poleJ f ks j).1
      · have hxt : (ks[j] == 2) = true := by cases h : (ks[j] == 2) <;> simp_all
        rw [hxt] at hx2
        simp only [fl5, tK, go_sem, Nat.reduceEqDiff, Nat.reduceAdd, Nat.reduceSub, Nat.reduceMul, Nat.reduceLT, Nat.reduceLeDiff, Nat.reduceMod, Nat.reduceDiv, Int.reduceToNat, Int.reduceLT, Int.reduceLE, Bool.not_true, Bool.not_false, reduceIte, Int.reduceEq, Int.reduceBEq, Int.reduceBNe, Int.reduceGT, Int.reduceGE, Int.reduceNeg, Int.reduceAdd, Int.reduceSub, Nat.reduceBEq, decide_true, decide_false, undef, beq_self_eq_true, bne_self_eq_false, Bool.and_true, Bool.true_and, Bool.and_false, Bool.false_and, Bool.or_true, Bool.true_or, Bool.or_false, Bool.false_or, undef, List.length_map, List.getElem?_map, hg, Option.map_some, hpu, hx2, sj, hor, hj0]
        refine awpL_loopK (j + 2) (fun m s => runC f ks (j + 1) = m + runC f ks (j + 1 - m) ∧ m ≤ j + 1 ∧ s = { env := [(10, .t (vi ((j : Int) - m))), (9, .t (vi m)), (5, .t (vi (maskOf (upAt f ks) (j + 1) : Nat))), (13, .t (vi j)), (12, .t (vi ks.length)), (11, .t (tK ks)), (1, .t (tK ks)), (2, .ptr 0 0)], σ := [.cells ((fl5 f).map .t)] }) ⟨_, Sub.gc [0] [10, 9, 5, 13, 12, 11, 1, 2] rfl rfl, by simp, by omega, by simp only [Int.natCast_zero, Int.sub_zero]; rfl⟩ ?_
        rintro m s hm2 ⟨hrun, hmj, rfl⟩
        have hwm : IntKind.i64.wrap ((m : Int) + 1) = ((m + 1 : Nat) : Int) := by rw [wrap_id (by omega) (by omega)]; omega
        have hwd : IntKind.i64.wrap ((j : Int) - m - 1) = (j : Int) - ((m + 1 : Nat) : Int) := by rw [wrap_id (by omega) (by omega)]; omega
        have stop : runC f ks (j + 1 - m) = 0 → decide ((m : Int) < f.quiet) = (poleJ f ks (j + 1)).1 := fun h0 => by
          rw [hp, hrun, h0, Nat.add_zero]
        cases g1 : decide ((j : Int) - m ≥ 0)
        · have hme : m = j + 1 := by have := of_decide_eq_false g1; omega
          have h0 : runC f ks (j + 1 - m) = 0 := by rw [hme, Nat.sub_self]; rfl
          simp only [fl5, tK, go_sem, Nat.reduceEqDiff, Nat.reduceAdd, Nat.reduceSub, Nat.reduceMul, Nat.reduceLT, Nat.reduceLeDiff, Nat.reduceMod, Nat.reduceDiv, Int.reduceToNat, Int.reduceLT, Int.reduceLE, Bool.not_true, Bool.not_false, reduceIte, Int.reduceEq, Int.reduceBEq, Int.reduceBNe, Int.reduceGT, Int.reduceGE, Int.reduceNeg, Int.reduceAdd, Int.reduceSub, Nat.reduceBEq, decide_true, decide_false, undef, beq_self_eq_true, bne_self_eq_false, Bool.and_true, Bool.true_and, Bool.and_false, Bool.false_and, Bool.or_true, Bool.true_or, Bool.or_false, Bool.false_or, undef, List.length_map, List.getElem?_map, g1, stop h0, hw]
          exact ⟨_, Sub.gc [0] [13, 12, 11, 1, 2, 5, 6] rfl rfl, rfl⟩
        · have hmj' : m ≤ j := by have := of_decide_eq_true g1; omega
          have hi : (j : Int) - m = ((j - m : Nat) : Int) := by omega
          have hil : j - m < ks.length := by omega
          have hgi : ks[j - m]? = some ks[j - m] := List.getElem?_eq_getElem hil
          have hwd' : IntKind.i64.wrap (((j - m : Nat) : Int) - 1) = (j : Int) - ((m + 1 : Nat) : Int) := by rw [wrap_id (by omega) (by omega)]; omega
          have hi0 : (((j - m : Nat) : Int) < 0) = False := by simp
          have hbit := bit_eq (a := maskOf (upAt f ks) (j + 1)) (i := j - m) (by omega)
          rw [hmb, show decide (j - m < j + 1) = true by simp; omega, Bool.true_and] at hbit
          have rc : runC f ks (j + 1 - m) = if ks[j - m]? = some 0 ∧ upAt f ks (j - m) = true then runC f ks (j - m) + 1 else 0 := by
            rw [show j + 1 - m = (j - m) + 1 by omega]; rfl
          rw [hi] at g1
          rw [hgi] at rc
          cases g2 : ((ks[j - m] : Int) == 0)
          · have h0 : runC f ks (j + 1 - m) = 0 := by
              rw [rc, if_neg]
              rintro ⟨e, _⟩
              rw [Option.some.inj e] at g2
              simp at g2
            simp only [fl5, tK, go_sem, Nat.reduceEqDiff, Nat.reduceAdd, Nat.reduceSub, Nat.reduceMul, Nat.reduceLT, Nat.reduceLeDiff, Nat.reduceMod, Nat.reduceDiv, Int.reduceToNat, Int.reduceLT, Int.reduceLE, Bool.not_true, Bool.not_false, reduceIte, Int.reduceEq, Int.reduceBEq, Int.reduceBNe, Int.reduceGT, Int.reduceGE, Int.reduceNeg, Int.reduceAdd, Int.reduceSub, Nat.reduceBEq, decide_true, decide_false, undef, beq_self_eq_true, bne_self_eq_false, Bool.and_true, Bool.true_and, Bool.and_false, Bool.false_and, Bool.or_true, Bool.true_or, Bool.or_false, Bool.false_or, undef, List.length_map, List.getElem?_map, hi, g1, hgi, Option.map_some, g2, stop h0, hw]
            exact ⟨_, Sub.gc [0] [13, 12, 11, 1, 2, 5, 6] rfl rfl, rfl⟩
          · have hz : ks[j - m] = 0 := by have := eq_of_beq g2; omega
            cases g3 : upAt f ks (j - m)
            · have h0 : runC f ks (j + 1 - m) = 0 := by
                rw [rc, if_neg]
                rintro ⟨_, e⟩
                rw [g3] at e
                cases e
              rw [g3] at hbit
              simp only [fl5, tK, go_sem, Nat.reduceEqDiff, Nat.reduceAdd, Nat.reduceSub, Nat.reduceMul, Nat.reduceLT, Nat.reduceLeDiff, Nat.reduceMod, Nat.reduceDiv, Int.reduceToNat, Int.reduceLT, Int.reduceLE, Bool.not_true, Bool.not_false, reduceIte, Int.reduceEq, Int.reduceBEq, Int.reduceBNe, Int.reduceGT, Int.reduceGE, Int.reduceNeg, Int.reduceAdd, Int.reduceSub, Nat.reduceBEq, decide_true, decide_false, undef, beq_self_eq_true, bne_self_eq_false, Bool.and_true, Bool.true_and, Bool.and_false, Bool.false_and, Bool.or_true, Bool.true_or, Bool.or_false, Bool.false_or, undef, List.length_map, List.getElem?_map, hi, g1, hgi, Option.map_some, g2, hbit, hi0, stop h0, hw]
              exact ⟨_, Sub.gc [0] [13, 12, 11, 1, 2, 5, 6] rfl rfl, rfl⟩
            · rw [g3] at hbit
              rw [if_pos ⟨by rw [hz], g3⟩] at rc
              simp only [fl5, tK, go_sem, Nat.reduceEqDiff, Nat.reduceAdd, Nat.reduceSub, Nat.reduceMul, Nat.reduceLT, Nat.reduceLeDiff, Nat.reduceMod, Nat.reduceDiv, Int.reduceToNat, Int.reduceLT, Int.reduceLE, Bool.not_true, Bool.not_false, reduceIte, Int.reduceEq, Int.reduceBEq, Int.reduceBNe, Int.reduceGT, Int.reduceGE, Int.reduceNeg, Int.reduceAdd, Int.reduceSub, Nat.reduceBEq, decide_true, decide_false, undef, beq_self_eq_true, bne_self_eq_false, Bool.and_true, Bool.true_and, Bool.and_false, Bool.false_and, Bool.or_true, Bool.true_or, Bool.or_false, Bool.false_or, undef, List.length_map, List.getElem?_map, hi, g1, hgi, Option.map_some, g2, hbit, hi0, hwm, hwd']
              exact ⟨by omega, _, Sub.gc [0] [10, 9, 5, 13, 12, 11, 1, 2] rfl rfl, by rw [hrun, rc, show j + 1 - (m + 1) = j - m by omega]; omega, by omega, rfl⟩
      · simp only [fl5, tK, go_sem, Nat.reduceEqDiff, Nat.reduceAdd, Nat.reduceSub, Nat.reduceMul, Nat.reduceLT, Nat.reduceLeDiff, Nat.reduceMod, Nat.reduceDiv, Int.reduceToNat, Int.reduceLT, Int.reduceLE, Bool.not_true, Bool.not_false, reduceIte, Int.reduceEq, Int.reduceBEq, Int.reduceBNe, Int.reduceGT, Int.reduceGE, Int.reduceNeg, Int.reduceAdd, Int.reduceSub, Nat.reduceBEq, decide_true, decide_false, undef, beq_self_eq_true, bne_self_eq_false, Bool.and_true, Bool.true_and, Bool.and_false, Bool.false_and, Bool.or_true, Bool.true_or, Bool.or_false, Bool.false_or, undef, List.length_map, List.getElem?_map, hg, Option.map_some, hpu, sj, hor, hj0]
        refine awpL_loopK (j + 2) (fun m s => runC f ks (j + 1) = m + runC f ks (j + 1 - m) ∧ m ≤ j + 1 ∧ s = { env := [(10, .t (vi ((j : Int) - m))), (9, .t (vi m)), (5, .t (vi (maskOf (upAt f ks) (j + 1) : Nat))), (13, .t (vi j)), (12, .t (vi ks.length)), (11, .t (tK ks)), (1, .t (tK ks)), (2, .ptr 0 0)], σ := [.cells ((fl5 f).map .t)] }) ⟨_, Sub.gc [0] [10, 9, 5, 13, 12, 11, 1, 2] rfl rfl, by simp, by omega, by simp only [Int.natCast_zero, Int.sub_zero]; rfl⟩ ?_
        rintro m s hm2 ⟨hrun, hmj, rfl⟩
        have hwm : IntKind.i64.wrap ((m : Int) + 1) = ((m + 1 : Nat) : Int) := by rw [wrap_id (by omega) (by omega)]; omega
        have hwd : IntKind.i64.wrap ((j : Int) - m - 1) = (j : Int) - ((m + 1 : Nat) : Int) := by rw [wrap_id (by omega) (by omega)]; omega
        have stop : runC f ks (j + 1 - m) = 0 → decide ((m : Int) < f.quiet) = (poleJ f ks (j + 1)).1 := fun h0 => by
          rw [hp, hrun, h0, Nat.add_zero]
        cases g1 : decide ((j : Int) - m ≥ 0)
        · have hme : m = j + 1 := by have := of_decide_eq_false g1; omega
          have h0 : runC f ks (j + 1 - m) = 0 := by rw [hme, Nat.sub_self]; rfl
          simp only [fl5, tK, go_sem, Nat.reduceEqDiff, Nat.reduceAdd, Nat.reduceSub, Nat.reduceMul, Nat.reduceLT, Nat.reduceLeDiff, Nat.reduceMod, Nat.reduceDiv, Int.reduceToNat, Int.reduceLT, Int.reduceLE, Bool.not_true, Bool.not_false, reduceIte, Int.reduceEq, Int.reduceBEq, Int.reduceBNe, Int.reduceGT, Int.reduceGE, Int.reduceNeg, Int.reduceAdd, Int.reduceSub, Nat.reduceBEq, decide_true, decide_false, undef, beq_self_eq_true, bne_self_eq_false, Bool.and_true, Bool.true_and, Bool.and_false, Bool.false_and, Bool.or_true, Bool.true_or, Bool.or_false, Bool.false_or, undef, List.length_map, List.getElem?_map, g1, stop h0, hw]
          exact ⟨_, Sub.gc [0] [13, 12, 11, 1, 2, 5, 6] rfl rfl, rfl⟩
        · have hmj' : m ≤ j := by have := of_decide_eq_true g1; omega
          have hi : (j : Int) - m = ((j - m : Nat) : Int) := by omega
          have hil : j - m < ks.length := by omega
          have hgi : ks[j - m]? = some ks[j - m] := List.getElem?_eq_getElem hil
          have hwd' : IntKind.i64.wrap (((j - m : Nat) : Int) - 1) = (j : Int) - ((m + 1 : Nat) : Int) := by rw [wrap_id (by omega) (by omega)]; omega
          have hi0 : (((j - m : Nat) : Int) < 0) = False := by simp
          have hbit := bit_eq (a := maskOf (upAt f ks) (j + 1)) (i := j - m) (by omega)
          rw [hmb, show decide (j - m < j + 1) = true by simp; omega, Bool.true_and] at hbit
          have rc : runC f ks (j + 1 - m) = if ks[j - m]? = some 0 ∧ upAt f ks (j - m) = true then runC f ks (j - m) + 1 else 0 := by
            rw [show j + 1 - m = (j - m) + 1 by omega]; rfl
          rw [hi] at g1
          rw [hgi] at rc
          cases g2 : ((ks[j - m] : Int) == 0)
          · have h0 : runC f ks (j + 1 - m) = 0 := by
              rw [rc, if_neg]
              rintro ⟨e, _⟩
              rw [Option.some.inj e] at g2
              simp at g2
            simp only [fl5, tK, go_sem, Nat.reduceEqDiff, Nat.reduceAdd, Nat.reduceSub, Nat.reduceMul, Nat.reduceLT, Nat.reduceLeDiff, Nat.reduceMod, Nat.reduceDiv, Int.reduceToNat, Int.reduceLT, Int.reduceLE, Bool.not_true, Bool.not_false, reduceIte, Int.reduceEq, Int.reduceBEq, Int.reduceBNe, Int.reduceGT, Int.reduceGE, Int.reduceNeg, Int.reduceAdd, Int.reduceSub, Nat.reduceBEq, decide_true, decide_false, undef, beq_self_eq_true, bne_self_eq_false, Bool.and_true, Bool.true_and, Bool.and_false, Bool.false_and, Bool.or_true, Bool.true_or, Bool.or_false, Bool.false_or, undef, List.length_map, List.getElem?_map, hi, g1, hgi, Option.map_some, g2, stop h0, hw]
            exact ⟨_, Sub.gc [0] [13, 12, 11, 1, 2, 5, 6] rfl rfl, rfl⟩
          · have hz : ks[j - m] = 0 := by have := eq_of_beq g2; omega
            cases g3 : upAt f ks (j - m)
            · have h0 : runC f ks (j + 1 - m) = 0 := by
                rw [rc, if_neg]
                rintro ⟨_, e⟩
                rw [g3] at e
                cases e
              rw [g3] at hbit
              simp only [fl5, tK, go_sem, Nat.reduceEqDiff, Nat.reduceAdd, Nat.reduceSub, Nat.reduceMul, Nat.reduceLT, Nat.reduceLeDiff, Nat.reduceMod, Nat.reduceDiv, Int.reduceToNat, Int.reduceLT, Int.reduceLE, Bool.not_true, Bool.not_false, reduceIte, Int.reduceEq, Int.reduceBEq, Int.reduceBNe, Int.reduceGT, Int.reduceGE, Int.reduceNeg, Int.reduceAdd, Int.reduceSub, Nat.reduceBEq, decide_true, decide_false, undef, beq_self_eq_true, bne_self_eq_false, Bool.and_true, Bool.true_and, Bool.and_false, Bool.false_and, Bool.or_true, Bool.true_or, Bool.or_false, Bool.false_or, undef, List.length_map, List.getElem?_map, hi, g1, hgi, Option.map_some, g2, hbit, hi0, stop h0, hw]
              exact ⟨_, Sub.gc [0] [13, 12, 11, 1, 2, 5, 6] rfl rfl, rfl⟩
            · rw [g3] at hbit
              rw [if_pos ⟨by rw [hz], g3⟩] at rc
              simp only [fl5, tK, go_sem, Nat.reduceEqDiff, Nat.reduceAdd, Nat.reduceSub, Nat.reduceMul, Nat.reduceLT, Nat.reduceLeDiff, Nat.reduceMod, Nat.reduceDiv, Int.reduceToNat, Int.reduceLT, Int.reduceLE, Bool.not_true, Bool.not_false, reduceIte, Int.reduceEq, Int.reduceBEq, Int.reduceBNe, Int.reduceGT, Int.reduceGE, Int.reduceNeg, Int.reduceAdd, Int.reduceSub, Nat.reduceBEq, decide_true, decide_false, undef, beq_self_eq_true, bne_self_eq_false, Bool.and_true, Bool.true_and, Bool.and_false, Bool.false_and, Bool.or_true, Bool.true_or, Bool.or_false, Bool.false_or, undef, List.length_map, List.getElem?_map, hi, g1, hgi, Option.map_some, g2, hbit, hi0, hwm, hwd']
              exact ⟨by omega, _, Sub.gc [0] [10, 9, 5, 13, 12, 11, 1, 2] rfl rfl, by rw [hrun, rc, show j + 1 - (m + 1) = j - m by omega]; omega, by omega, rfl⟩
  · rintro s rfl
    simp only [go_sem, Nat.reduceEqDiff, Nat.reduceAdd, Nat.reduceSub, Nat.reduceMul, Nat.reduceLT, Nat.reduceLeDiff, Nat.reduceMod, Nat.reduceDiv, Int.reduceToNat, Int.reduceLT, Int.reduceLE, Bool.not_true, Bool.not_false, reduceIte, Int.reduceEq, Int.reduceBEq, Int.reduceBNe, Int.reduceGT, Int.reduceGE, Int.reduceNeg, Int.reduceAdd, Int.reduceSub, Nat.reduceBEq, decide_true, decide_false, undef, beq_self_eq_true, bne_self_eq_false, Bool.and_true, Bool.true_and, Bool.and_false, Bool.false_and, Bool.or_true, Bool.true_or, Bool.or_false, Bool.false_or, undef]
    exact finL_ret [] ⟨rfl, rfl, rfl, rfl, _, rfl, res_mk rfl⟩
end Go.Proofs.YtkbjodmpmmnhgaaDoor
