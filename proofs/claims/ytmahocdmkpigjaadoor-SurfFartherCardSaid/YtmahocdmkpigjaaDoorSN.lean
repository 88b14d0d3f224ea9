/- Proved here: laws that the statements need (SuZ1, SuZ2). No conditions but those that each law states. -/
import Derived.Test.YtmahocdmkpigjaaDoorSL
import Derived.Test.YtmahocdmkpigjaaDoorSG0

set_option linter.unusedSimpArgs false
set_option linter.unusedVariables false

/- SurfMore, SurfFarther: what is less dangerous, and huts the other way round. Plain laws. -/
namespace Go.Proofs.YtmahocdmkpigjaaDoor
open Go Go.Ab

/-- A surf is no more dangerous for a hut than another one for its hut. -/
structure Safer (x s : Su) (g h : Hu) : Prop where
  step : x.step = s.step
  step0 : 0 ≤ s.step
  len : x.water.length = s.water.length
  floor : h.floor ≤ g.floor
  brake : h.brake ≤ g.brake
  row : h.row ≤ g.row
  r0 : 0 ≤ h.row
  r6 : g.row < 6
  up : ∀ (i : Nat) (o' : Hour), o' ∈ hoursL x i → ∃ o ∈ hoursL s i, o'.1 ≤ o.1 ∧ o'.2 ≤ o.2
  down : ∀ (i : Nat) (o : Hour), o ∈ hoursL s i → ∃ o' ∈ hoursL x i, o'.1 ≤ o.1 ∧ o'.2 ≤ o.2

theorem lift_safe {step f f' w w' v v' : Int} {k k' : Nat} (h0 : 0 ≤ step) (hf : f ≤ f') (hw : w' ≤ w) (hv : v' ≤ v) (hk : k ≤ k') (hp : k ≠ 0) (h : liftK step f' w' v' k' = true) : liftK step f w v k = true := by
  unfold liftK at h ⊢
  simp only [Bool.and_eq_true, Bool.not_eq_true', decide_eq_true_eq, beq_eq_false_iff_ne] at h ⊢
  obtain ⟨_, h1, h2⟩ := h
  have hd : deepI step w' ((k' : Int) - 1) ≤ deepI step w ((k : Int) - 1) := by
    unfold deepI
    have : step * ((k : Int) - 1) ≤ step * ((k' : Int) - 1) := Int.mul_le_mul_of_nonneg_left (by omega) h0
    omega
  exact ⟨hp, by omega, by omega⟩

section
variable {x s : Su} {g h : Hu}
theorem next_safe (S : Safer x s g h) {o o' : Hour} (h1 : o'.1 ≤ o.1) (h2 : o'.2 ≤ o.2) {k k' : Nat} (hk : k ≤ k') : nextK s.step h k o ≤ nextK x.step g k' o' := by
  by_cases c : k = k'
  · subst c
    unfold nextK
    rw [S.step]
    by_cases m : (liftK s.step g.floor o'.1 o'.2 k && decide (o'.2 > g.brake)) = true
    · rw [if_pos m]
      rw [Bool.and_eq_true, decide_eq_true_eq] at m
      have hp : k ≠ 0 := by rintro rfl; rw [liftK_zero] at m; cases m.1
      rw [if_pos]
      · exact Nat.le_refl _
      · rw [Bool.and_eq_true, decide_eq_true_eq]
        exact ⟨lift_safe S.step0 S.floor h1 h2 (Nat.le_refl _) hp m.1, by have := S.brake; omega⟩
    · rw [if_neg m]; split <;> omega
  · have a := nextK_le s.step h k o
    have b : k' - 1 ≤ nextK x.step g k' o' := by unfold nextK; split <;> omega
    omega

theorem run_up (S : Safer x s g h) : ∀ (t : Nat) (os' : List Hour), os'.length = t → Tr x os' → ∃ os, os.length = t ∧ Tr s os ∧ runP s h os ≤ runP x g os'
  | 0, os', hl, _ => ⟨[], rfl, fun i o h => by simp at h, by
    rw [List.eq_nil_of_length_eq_zero hl]
    show h.row.toNat + 1 ≤ g.row.toNat + 1
    have := S.row
    omega⟩
  | t + 1, os', hl, ht => by
    obtain ⟨q, o', rfl, hq⟩ := snoc_cases os' hl
    obtain ⟨h1, h2⟩ := Tr_snoc.1 ht
    obtain ⟨os, l1, l2, l3⟩ := run_up S t q hq h1
    obtain ⟨o, m1, m2, m3⟩ := S.up _ _ h2
    exact ⟨os ++ [o], by simp [l1], Tr_snoc.2 ⟨l2, by rw [l1, ← hq]; exact m1⟩, by rw [runP_snoc, runP_snoc]; exact next_safe S m2 m3 l3⟩
theorem run_down (S : Safer x s g h) : ∀ (t : Nat) (os : List Hour), os.length = t → Tr s os → ∃ os', os'.length = t ∧ Tr x os' ∧ runP s h os ≤ runP x g os'
  | 0, os, hl, _ => ⟨[], rfl, fun i o h => by simp at h, by
    rw [List.eq_nil_of_length_eq_zero hl]
    show h.row.toNat + 1 ≤ g.row.toNat + 1
    have := S.row
    omega⟩
  | t + 1, os, hl, ht => by
    obtain ⟨q, o, rfl, hq⟩ := snoc_cases os hl
    obtain ⟨h1, h2⟩ := Tr_snoc.1 ht
    obtain ⟨os', l1, l2, l3⟩ := run_down S t q hq h1
    obtain ⟨o', m1, m2, m3⟩ := S.down _ _ h2
    exact ⟨os' ++ [o'], by simp [l1], Tr_snoc.2 ⟨l2, by rw [l1, ← hq]; exact m1⟩, by rw [runP_snoc, runP_snoc]; exact next_safe S m2 m3 l3⟩

theorem half_zero {m : Nat} : m / 2 = 0 ↔ ∀ k, m.testBit (k + 1) = false := by
  constructor
  · intro h k
    rw [Nat.testBit_succ, h, Nat.zero_testBit]
  · intro h
    apply Nat.eq_of_testBit_eq
    intro i
    rw [Nat.zero_testBit, ← Nat.testBit_succ, h]
theorem lost_safe (S : Safer x s g h) : lostN (logS x g x.water.length) ≤ lostN (logS s h s.water.length) := by
  have hr : 0 ≤ h.row ∧ h.row < 6 := ⟨S.r0, by have := S.row; have := S.r6; omega⟩
  have hr' : 0 ≤ g.row ∧ g.row < 6 := ⟨by have := S.row; have := S.r0; omega, S.r6⟩
  have a0 : (logS x g x.water.length).testBit 0 = true → (logS s h s.water.length).testBit 0 = true := fun hb => by
    obtain ⟨os', l1, l2, l3⟩ := (log_mem x g hr' _ 0).1 hb
    obtain ⟨os, m1, m2, m3⟩ := run_up S _ os' l1 l2
    exact (log_mem s h hr _ 0).2 ⟨os, by rw [m1, S.len], m2, by omega⟩
  have a2 : logS x g x.water.length / 2 = 0 → logS s h s.water.length / 2 = 0 := fun hb => by
    rw [half_zero] at hb ⊢
    intro k
    cases hk : (logS s h s.water.length).testBit (k + 1) with
    | false => rfl
    | true =>
      obtain ⟨os, l1, l2, l3⟩ := (log_mem s h hr _ _).1 hk
      obtain ⟨os', m1, m2, m3⟩ := run_down S _ os l1 l2
      have h1 := (log_mem x g hr' x.water.length (runP x g os')).2 ⟨os', by rw [m1, S.len], m2, rfl⟩
      have h2 := hb (runP x g os' - 1)
      rw [show runP x g os' - 1 + 1 = runP x g os' by omega, h1] at h2
      cases h2
  unfold lostN
  cases hb : (logS x g x.water.length).testBit 0
  · rw [if_neg (by simp)]; split
    · split <;> omega
    · omega
  · rw [if_pos rfl, if_pos (a0 hb)]
    by_cases c : logS x g x.water.length / 2 = 0
    · rw [if_pos c, if_pos (a2 c)]; omega
    · rw [if_neg c]; split <;> omega

theorem lost_floats (s : Su) (h : Hu) : ∀ (t : Nat) (os : List Hour), os.length = t → runP s h os = 0 → ∃ j o, os[j]? = some o ∧ Flo s h (os.take j) o = true
  | 0, os, hl, hz => by rw [List.eq_nil_of_length_eq_zero hl] at hz; exact absurd hz (Nat.succ_ne_zero _)
  | t + 1, os, hl, hz => by
    obtain ⟨q, o, rfl, hq⟩ := snoc_cases os hl
    by_cases c : runP s h q = 0
    · obtain ⟨j, p, h1, h2⟩ := lost_floats s h t q hq c
      have hj := (List.getElem?_eq_some_iff.1 h1).1
      refine ⟨j, p, by rw [List.getElem?_append_left hj]; exact h1, ?_⟩
      rw [List.take_append_of_le_length (by omega)]; exact h2
    · rw [runP_snoc] at hz
      refine ⟨q.length, o, by simp, ?_⟩
      rw [List.take_left' rfl]
      unfold nextK at hz
      split at hz
      · rename_i hc
        rw [Bool.and_eq_true] at hc
        exact hc.1
      · exact absurd hz c
theorem can_safe (S : Safer x s g h) {i : Nat} (hc : canB x g i = true) : ∃ j ≤ i, canB s h j = true := by
  have hr : 0 ≤ h.row ∧ h.row < 6 := ⟨S.r0, by have := S.row; have := S.r6; omega⟩
  have hr' : 0 ≤ g.row ∧ g.row < 6 := ⟨by have := S.row; have := S.r0; omega, S.r6⟩
  obtain ⟨os', o', l1, l2, l3⟩ := (canB_iff x g hr' i).1 hc
  obtain ⟨h1, h2⟩ := Tr_snoc.1 l2
  obtain ⟨os, m1, m2, m3⟩ := run_up S _ os' l1 h1
  by_cases c : runP s h os = 0
  · obtain ⟨j, o, e1, e2⟩ := lost_floats s h _ os rfl c
    have hj := (List.getElem?_eq_some_iff.1 e1).1
    refine ⟨j, by omega, (canB_iff s h hr j).2 ⟨os.take j, o, by rw [List.length_take]; omega, ?_, e2⟩⟩
    have := Tr_take m2 (j + 1)
    rw [List.take_succ_eq_append_getElem hj] at this
    rw [List.getElem?_eq_getElem hj] at e1
    cases e1
    exact this
  · obtain ⟨o, q1, q2, q3⟩ := S.up _ _ h2
    refine ⟨i, Nat.le_refl _, (canB_iff s h hr i).2 ⟨os, o, m1, Tr_snoc.2 ⟨m2, by rw [m1, ← l1]; exact q1⟩, ?_⟩⟩
    unfold Flo at l3 ⊢
    rw [S.step] at l3
    exact lift_safe S.step0 S.floor q2 q3 m3 c l3
theorem first_safe (S : Safer x s g h) (hf : 0 ≤ firstS x g) : 0 ≤ firstS s h ∧ firstS s h ≤ firstS x g := by
  obtain ⟨i, e, hi, hc, _⟩ := first_at x g hf
  obtain ⟨j, hj, hcj⟩ := can_safe S hc
  have hjl : j < s.water.length := by have := S.len; omega
  have h0 : 0 ≤ firstS s h := by
    by_cases c : firstS s h < 0
    · rw [(first_neg s h).1 c j hjl] at hcj; cases hcj
    · omega
  refine ⟨h0, ?_⟩
  obtain ⟨i2, e2, _, _, hm⟩ := first_at s h h0
  by_cases c : j < i2
  · rw [hm j c] at hcj; cases hcj
  · omega
end

/-! ### Huts that are left -/
theorem right_count {s : Su} {many : Int} {l : List Int} (hr : rightB s many l = true) (hm : 0 ≤ many) {v : Int} (hv : 0 ≤ v) : ∀ k ≤ l.length, ((l.take k).count v : Int) ≤ many
  | 0, _ => by simpa using hm
  | k + 1, hk => by
    have ih := right_count hr hm hv k (by omega)
    have hg : goodAt s many l k = true := List.all_eq_true.1 hr k (List.mem_range.2 (by omega))
    have hget : l.getD k 0 = l[k] := by rw [List.getD_eq_getElem?_getD, List.getElem?_eq_getElem (by omega)]; rfl
    have htk : l.take (k + 1) = l.take k ++ [l[k]] := List.take_succ_eq_append_getElem (by omega)
    by_cases c : l[k] = v
    · unfold goodAt at hg
      rw [hget, c, decide_eq_false (by omega), Bool.false_or] at hg
      simp only [Bool.and_eq_true, decide_eq_true_eq] at hg
      exact hg.2
    · rw [htk, List.count_append, List.count_eq_zero (l := [l[k]]).2 (by rw [List.mem_singleton]; exact fun e => c e.symm)]
      exact ih
theorem size_sub : ∀ a < 32, ∀ b < 32, a &&& b = a → size a ≤ size b := by decide +kernel
theorem outM_lt32 (s : Su) {l : List Int} {n : Nat} (h : n ≤ 5) : outM s l n < 32 := Nat.lt_of_lt_of_le (maskOf_lt _ _) (Nat.pow_le_pow_right (n := 2) (j := 5) (by decide) h)
theorem count_map_le {F G : Nat → Int} {v : Int} : ∀ k, (∀ i < k, F i = v → G i = v) → ((List.range k).map F).count v ≤ ((List.range k).map G).count v
  | 0, _ => Nat.le_refl _
  | k + 1, h => by
    have ih := count_map_le k fun i hi => h i (by omega)
    rw [List.range_succ, List.map_append, List.map_append, List.count_append, List.count_append]
    refine Nat.add_le_add ih ?_
    simp only [List.map_cons, List.map_nil, List.count_cons, List.count_nil]
    by_cases c : F k = v
    · rw [h k (by omega) c, c]; exact Nat.le_refl _
    · simp [c]
theorem take_range {α : Type} (F : Nat → α) (n k : Nat) (h : k ≤ n) : ((List.range n).map F).take k = (List.range k).map F := by rw [← List.map_take, List.take_range, Nat.min_eq_left h]
theorem list_range (l : List Int) : l = (List.range l.length).map fun i => l.getD i 0 := by
  apply List.ext_getElem?
  intro i
  rw [List.getElem?_map]
  by_cases c : i < l.length
  · rw [List.getElem?_range c, Option.map_some, List.getD_eq_getElem?_getD, List.getElem?_eq_getElem c]; rfl
  · rw [List.getElem?_eq_none (by omega), List.getElem?_eq_none (by simp; omega)]; rfl
/-- With huts that can float later, or not at all, no more are left. -/
theorem save_less {s x : Su} (hs : s.OK) (hx : x.OK) {many : Int} (hm : 0 ≤ many) (hn : x.huts.length = s.huts.length) (hf : ∀ i < s.huts.length, 0 ≤ fstH x i → 0 ≤ fstH s i ∧ fstH s i ≤ fstH x i) :
    ∃ l a l' b, saveF s many = some (l, a) ∧ saveF x many = some (l', b) ∧ size b ≤ size a ∧ a < 32 ∧ b < 32 := by
  obtain ⟨l, a, h1, h2, h3, h4, h5⟩ := save_some hs hm
  have hnh := hs.nh
  let own : List Int := (List.range s.huts.length).map fun i => if 0 ≤ fstH x i then l.getD i 0 else -1
  have hol : own.length = x.huts.length := by simp [own, hn]
  have hget : ∀ i, i < s.huts.length → own.getD i 0 = if 0 ≤ fstH x i then l.getD i 0 else -1 := fun i hi => by
    show (List.map _ _).getD i 0 = _
    rw [List.getD_eq_getElem?_getD, List.getElem?_map, List.getElem?_range hi]; rfl
  have hright : rightB x many own = true := List.all_eq_true.2 fun i hi => by
    have hi : i < s.huts.length := by have := List.mem_range.1 hi; omega
    unfold goodAt
    rw [hget i hi]
    by_cases c : 0 ≤ fstH x i
    · rw [if_pos c]
      have hg : goodAt s many l i = true := List.all_eq_true.1 h3 i (List.mem_range.2 (by omega))
      unfold goodAt at hg
      by_cases c2 : l.getD i 0 = -1
      · rw [decide_eq_true c2]; rfl
      · rw [decide_eq_false c2, Bool.false_or] at hg ⊢
        simp only [Bool.and_eq_true, decide_eq_true_eq] at hg ⊢
        obtain ⟨⟨⟨g1, g2⟩, g3⟩, g4⟩ := hg
        refine ⟨⟨⟨g1, c⟩, by have := (hf i hi c).2; omega⟩, ?_⟩
        have hcnt : (own.take (i + 1)).count (l.getD i 0) ≤ (l.take (i + 1)).count (l.getD i 0) := by
          have e2 := list_range l
          rw [take_range _ _ _ (by omega)]
          conv => rhs; rw [e2]
          rw [take_range _ _ _ (by omega)]
          have : ((List.range l.length).map fun i => l.getD i 0).getD i 0 = l.getD i 0 := by rw [← e2]
          rw [this]
          refine count_map_le _ fun j hj he => ?_
          split at he
          · exact he
          · omega
        omega
    · rw [if_neg c]; rfl
  obtain ⟨l', b, q1, q2, _⟩ := save_law hx hol hright
  obtain ⟨_, _, r1, _, _, _, r5⟩ := save_some hx hm
  rw [q1] at r1
  cases r1
  have hsub : size (outM x own own.length) ≤ size a := by
    have e1 : own.length = s.huts.length := by rw [hol, hn]
    rw [e1, ← h4, h2]
    refine size_sub _ (outM_lt32 x hnh) _ (outM_lt32 s hnh) ?_
    apply Nat.eq_of_testBit_eq
    intro i
    rw [Nat.testBit_and, outM_bit, outM_bit]
    by_cases hi : i < s.huts.length
    · rw [hget i hi]
      by_cases c : 0 ≤ fstH x i
      · have := (hf i hi c).1
        simp [hi, c, this]
      · simp [c]
    · simp [hi]
  have p5 : 2 ^ s.huts.length ≤ 32 := Nat.pow_le_pow_right (n := 2) (j := 5) (by decide) hnh
  have p6 : 2 ^ x.huts.length ≤ 32 := by rw [hn]; exact p5
  exact ⟨l, a, l', b, h1, q1, by omega, by omega, by omega⟩

/-! ### Huts the other way round -/
def revS (s : Su) : Su := { s with huts := s.huts.reverse }
theorem revS_OK {s : Su} (hs : s.OK) : (revS s).OK := ⟨hs.rows, hs.step, hs.nw, hs.nv, by show s.huts.reverse.length ≤ 5; rw [List.length_reverse]; exact hs.nh, hs.water, hs.waves, fun h hh => hs.huts h (List.mem_reverse.1 hh)⟩
theorem revS_get {s : Su} {i : Nat} (hi : i < s.huts.length) : (revS s).huts[s.huts.length - 1 - i]? = s.huts[i]? := by
  show s.huts.reverse[_]? = _
  rw [List.getElem?_reverse (by omega)]
  congr 1
  omega
theorem revS_fst {s : Su} {i : Nat} (hi : i < s.huts.length) : fstH (revS s) i = fstH s (s.huts.length - 1 - i) := by
  unfold fstH
  have e : (revS s).huts.getD i ⟨0, 0, 0⟩ = s.huts.getD (s.huts.length - 1 - i) ⟨0, 0, 0⟩ := by
    rw [List.getD_eq_getElem?_getD, List.getD_eq_getElem?_getD, ← revS_get (show s.huts.length - 1 - i < s.huts.length by omega)]
    congr 2
    omega
  rw [e]
  exact firstS_huts s _ _
theorem revS_rev (s : Su) : revS (revS s) = s := by unfold revS; simp
def revM (n m : Nat) : Nat := maskOf (fun i => m.testBit (n - 1 - i)) n
theorem size_rev : ∀ n < 6, ∀ m < 32, m < 2 ^ n → size (revM n m) = size m := by decide +kernel
theorem rev_getD (l : List Int) {i : Nat} (hi : i < l.length) : l.reverse.getD i 0 = l.getD (l.length - 1 - i) 0 := by
  rw [List.getD_eq_getElem?_getD, List.getD_eq_getElem?_getD, List.getElem?_reverse hi]
theorem save_rev_le {s : Su} (hs : s.OK) {many : Int} (hm : 0 ≤ many) : ∃ l a l' b, saveF s many = some (l, a) ∧ saveF (revS s) many = some (l', b) ∧ size b ≤ size a ∧ a < 32 ∧ b < 32 := by
  obtain ⟨l, a, h1, h2, h3, h4, h5⟩ := save_some hs hm
  have hx := revS_OK hs
  have hnh := hs.nh
  have hol : l.reverse.length = (revS s).huts.length := by show _ = s.huts.reverse.length; simp [h2]
  have hright : rightB (revS s) many l.reverse = true := List.all_eq_true.2 fun i hi => by
    have hi : i < l.length := by have := List.mem_range.1 hi; rw [List.length_reverse] at this; exact this
    have hg : goodAt s many l (l.length - 1 - i) = true := List.all_eq_true.1 h3 _ (List.mem_range.2 (by omega))
    unfold goodAt at hg ⊢
    rw [rev_getD l hi, revS_fst (by omega), ← h2]
    by_cases c2 : l.getD (l.length - 1 - i) 0 = -1
    · rw [decide_eq_true c2]; rfl
    · rw [decide_eq_false c2, Bool.false_or] at hg ⊢
      simp only [Bool.and_eq_true, decide_eq_true_eq] at hg ⊢
      obtain ⟨⟨⟨g1, g2⟩, g3⟩, g4⟩ := hg
      refine ⟨⟨⟨g1, g2⟩, g3⟩, ?_⟩
      have c1 : (l.reverse.take (i + 1)).count (l.getD (l.length - 1 - i) 0) ≤ l.reverse.count (l.getD (l.length - 1 - i) 0) := (List.take_sublist _ _).count_le _
      rw [List.count_reverse] at c1
      have c3 := right_count h3 hm g1 l.length (Nat.le_refl _)
      rw [List.take_length] at c3
      omega
  obtain ⟨l', b, q1, q2, _⟩ := save_law hx hol hright
  obtain ⟨_, _, r1, _, _, _, r5⟩ := save_some hx hm
  rw [q1] at r1
  cases r1
  have hle : l.length ≤ 5 := by omega
  have hout : outM (revS s) l.reverse l.reverse.length = revM l.length (outM s l l.length) := by
    rw [List.length_reverse]
    apply Nat.eq_of_testBit_eq
    intro i
    unfold revM
    rw [outM_bit, maskOf_bit, outM_bit]
    by_cases hi : i < l.length
    · rw [rev_getD l hi, revS_fst (by omega), ← h2, decide_eq_true hi, decide_eq_true (show l.length - 1 - i < l.length by omega), Bool.true_and, Bool.true_and]
    · rw [decide_eq_false hi]; rfl
  have hlt : outM s l l.length < 2 ^ l.length := maskOf_lt _ _
  have p5 : 2 ^ l.length ≤ 32 := Nat.pow_le_pow_right (n := 2) (j := 5) (by decide) hle
  have p6 : 2 ^ (revS s).huts.length ≤ 32 := by rw [← hol, List.length_reverse]; exact p5
  have hsz := size_rev l.length (by omega) (outM s l l.length) (by omega) hlt
  rw [hout, hsz, h4] at q2
  exact ⟨l, a, l', b, h1, q1, by omega, by omega, by omega⟩
theorem save_rev {s : Su} (hs : s.OK) {many : Int} (hm : 0 ≤ many) : ∃ l a l' b, saveF s many = some (l, a) ∧ saveF (revS s) many = some (l', b) ∧ size b = size a ∧ a < 32 ∧ b < 32 := by
  obtain ⟨l, a, l', b, h1, h2, h3, h4, h5⟩ := save_rev_le hs hm
  obtain ⟨m, c, m', d, g1, g2, g3, _⟩ := save_rev_le (revS_OK hs) hm
  rw [revS_rev] at g2
  rw [h1] at g2
  rw [h2] at g1
  cases g1
  cases g2
  exact ⟨l, a, l', b, h1, h2, by omega, h4, h5⟩
end Go.Proofs.YtmahocdmkpigjaaDoor

/- SurfMore: surfs that are less dangerous in one thing. Plain laws. -/
namespace Go.Proofs.YtmahocdmkpigjaaDoor
open Go Go.Ab

theorem hoursP_in {x y : Sp} {o : Hour} (h : o ∈ hoursP x y) : x.1 ≤ o.1 ∧ o.1 ≤ x.2 ∧ y.1 ≤ o.2 ∧ o.2 ≤ y.2 := by
  unfold hoursP hourRow at h
  simp only [List.mem_flatMap, List.mem_map, List.mem_range] at h
  obtain ⟨i, hi, j, hj, rfl⟩ := h
  unfold numS at hi hj
  simp only
  omega
def downS (x : Sp) : Sp := (max 0 (x.1 - 1), max 0 (x.2 - 1))
def Dn (x' x : Sp) : Prop := x' = x ∨ (x' = downS x ∧ 0 ≤ x.1 ∧ x.1 ≤ x.2)
theorem Dn.up {x' x : Sp} (d : Dn x' x) {w : Int} (h : x'.1 ≤ w ∧ w ≤ x'.2) : ∃ v, (x.1 ≤ v ∧ v ≤ x.2) ∧ w ≤ v := by
  rcases d with rfl | ⟨rfl, h1, h2⟩
  · exact ⟨w, h, by omega⟩
  · unfold downS at h
    simp only at h
    exact ⟨max w x.1, by omega, by omega⟩
theorem Dn.down {x' x : Sp} (d : Dn x' x) {w : Int} (h : x.1 ≤ w ∧ w ≤ x.2) : ∃ v, (x'.1 ≤ v ∧ v ≤ x'.2) ∧ v ≤ w := by
  rcases d with rfl | ⟨rfl, h1, h2⟩
  · exact ⟨w, h, by omega⟩
  · refine ⟨max 0 (w - 1), ?_, by omega⟩
    unfold downS
    simp only
    omega
theorem hours_up {x' x y' y : Sp} (dx : Dn x' x) (dy : Dn y' y) {o' : Hour} (h : o' ∈ hoursP x' y') : ∃ o ∈ hoursP x y, o'.1 ≤ o.1 ∧ o'.2 ≤ o.2 := by
  obtain ⟨h1, h2, h3, h4⟩ := hoursP_in h
  obtain ⟨v, q1, q2⟩ := dx.up ⟨h1, h2⟩
  obtain ⟨u, q3, q4⟩ := dy.up ⟨h3, h4⟩
  exact ⟨(v, u), hoursP_mem q1 q3, q2, q4⟩
theorem hours_down {x' x y' y : Sp} (dx : Dn x' x) (dy : Dn y' y) {o : Hour} (h : o ∈ hoursP x y) : ∃ o' ∈ hoursP x' y', o'.1 ≤ o.1 ∧ o'.2 ≤ o.2 := by
  obtain ⟨h1, h2, h3, h4⟩ := hoursP_in h
  obtain ⟨v, q1, q2⟩ := dx.down ⟨h1, h2⟩
  obtain ⟨u, q3, q4⟩ := dy.down ⟨h3, h4⟩
  exact ⟨(v, u), hoursP_mem q1 q3, q2, q4⟩
theorem Dn.set {l : List Sp} {r : Nat} (h : ∀ x ∈ l, 0 ≤ x.1 ∧ x.1 ≤ x.2) (i : Nat) : Dn ((l.set r (downS (l.getD r (0, 0)))).getD i (0, 0)) (l.getD i (0, 0)) := by
  rw [List.getD_eq_getElem?_getD, List.getD_eq_getElem?_getD (l := l) (i := i)]
  by_cases c : r = i
  · subst c
    by_cases hl : r < l.length
    · rw [List.getElem?_set_self hl, List.getElem?_eq_getElem hl, List.getD_eq_getElem?_getD, List.getElem?_eq_getElem hl]
      have := h _ (List.getElem_mem hl)
      exact .inr ⟨rfl, this.1, this.2⟩
    · rw [List.getElem?_eq_none (by simp; omega), List.getElem?_eq_none (by omega)]
      exact .inl rfl
  · rw [List.getElem?_set_ne c]
    exact .inl rfl

def upF (h : Hu) : Hu := { h with floor := min 40 (h.floor + 1) }
def upB (h : Hu) : Hu := { h with brake := min 10 (h.brake + 1) }
def moreX (s : Su) (n r w : Nat) : Su :=
  if w = 0 then { s with water := s.water.set r (downS (s.water.getD r (0, 0))) }
  else if w = 1 then { s with waves := s.waves.set r (downS (s.waves.getD r (0, 0))) }
  else if w = 2 then { s with huts := s.huts.set n (upF (s.huts.getD n ⟨0, 0, 0⟩)) }
  else { s with huts := s.huts.set n (upB (s.huts.getD n ⟨0, 0, 0⟩)) }
theorem near_down {x : Sp} {high : Int} (h : Near x high) : Near (downS x) high := by
  unfold Near downS at *
  simp only
  omega
theorem near_set {l : List Sp} {r : Nat} {high : Int} (hr : r < l.length) (h : ∀ x ∈ l, Near x high) : ∀ x ∈ l.set r (downS (l.getD r (0, 0))), Near x high := fun x hx => by
  rcases List.mem_or_eq_of_mem_set hx with h1 | h1
  · exact h _ h1
  · rw [h1, List.getD_eq_getElem?_getD, List.getElem?_eq_getElem hr]
    exact near_down (h _ (List.getElem_mem hr))
theorem moreX_OK {s : Su} (hs : s.OK) {n r : Nat} (w : Nat) (hn : n < s.huts.length) (hr : r < s.water.length) : (moreX s n r w).OK := by
  have hnv := hs.nv
  have hg := hut_get hn
  have hh := hs.huts _ (List.mem_of_getElem? hg)
  unfold moreX
  split
  · exact ⟨hs.rows, hs.step, by simpa using hs.nw, by simpa using hs.nv, hs.nh, near_set hr hs.water, hs.waves, hs.huts⟩
  · split
    · exact ⟨hs.rows, hs.step, hs.nw, by simpa using hs.nv, hs.nh, hs.water, near_set (by omega) hs.waves, hs.huts⟩
    · split
      · refine ⟨hs.rows, hs.step, hs.nw, hs.nv, by simpa using hs.nh, hs.water, hs.waves, fun h hm => ?_⟩
        rcases List.mem_or_eq_of_mem_set hm with h1 | h1
        · exact hs.huts _ h1
        · rw [h1]
          unfold Hu.OK at hh ⊢
          unfold upF
          simp only
          omega
      · refine ⟨hs.rows, hs.step, hs.nw, hs.nv, by simpa using hs.nh, hs.water, hs.waves, fun h hm => ?_⟩
        rcases List.mem_or_eq_of_mem_set hm with h1 | h1
        · exact hs.huts _ h1
        · rw [h1]
          unfold Hu.OK at hh ⊢
          unfold upB
          simp only
          omega
theorem moreX_huts (s : Su) (n r w : Nat) : (moreX s n r w).huts.length = s.huts.length := by
  unfold moreX
  split
  · rfl
  · split
    · rfl
    · split <;> simp
theorem Safer.mk' {x s : Su} {g h : Hu} (hs : s.OK) (hh : h.OK s.rows) (h1 : x.step = s.step) (h2 : x.water.length = s.water.length) (h3 : h.floor ≤ g.floor) (h4 : h.brake ≤ g.brake) (h5 : h.row ≤ g.row) (h6 : g.row < 6)
    (h7 : ∀ i, Dn (x.water.getD i (0, 0)) (s.water.getD i (0, 0))) (h8 : ∀ i, Dn (x.waves.getD i (0, 0)) (s.waves.getD i (0, 0))) : Safer x s g h :=
  ⟨h1, hs.step.1, h2, h3, h4, h5, hh.2.2.2.2.1, h6, fun i _ ho => hours_up (h7 i) (h8 i) ho, fun i _ ho => hours_down (h7 i) (h8 i) ho⟩
theorem moreX_safer {s : Su} (hs : s.OK) (n r w : Nat) {i : Nat} {h : Hu} (hi : s.huts[i]? = some h) : ∃ g, (moreX s n r w).huts[i]? = some g ∧ Safer (moreX s n r w) s g h := by
  have hh := hs.huts _ (List.mem_of_getElem? hi)
  have hr6 : h.row < 6 := by have := hh.2.2.2.2.2; have := hs.rows; omega
  have e1 : ∀ i, Dn (s.water.getD i (0, 0)) (s.water.getD i (0, 0)) := fun _ => .inl rfl
  have e2 : ∀ i, Dn (s.waves.getD i (0, 0)) (s.waves.getD i (0, 0)) := fun _ => .inl rfl
  have key : ∀ (f : Hu → Hu), (∀ h : Hu, h.OK s.rows → h.floor ≤ (f h).floor ∧ h.brake ≤ (f h).brake ∧ (f h).row = h.row) → ∃ g, (s.huts.set n (f (s.huts.getD n ⟨0, 0, 0⟩)))[i]? = some g ∧ Safer { s with huts := s.huts.set n (f (s.huts.getD n ⟨0, 0, 0⟩)) } s g h := fun f hf => by
    obtain ⟨f1, f2, f3⟩ := hf h hh
    by_cases c : n = i
    · subst c
      have hl := (List.getElem?_eq_some_iff.1 hi).1
      have hgd : s.huts.getD n ⟨0, 0, 0⟩ = h := by rw [List.getD_eq_getElem?_getD, hi]; rfl
      rw [hgd]
      exact ⟨f h, List.getElem?_set_self hl, Safer.mk' hs hh rfl rfl f1 f2 (by omega) (by omega) e1 e2⟩
    · exact ⟨h, by rw [List.getElem?_set_ne c]; exact hi, Safer.mk' hs hh rfl rfl (Int.le_refl _) (Int.le_refl _) (Int.le_refl _) hr6 e1 e2⟩
  have nb : ∀ {l : List Sp} {high : Int}, (∀ x ∈ l, Near x high) → ∀ x ∈ l, 0 ≤ x.1 ∧ x.1 ≤ x.2 := fun h x hx => ⟨(h x hx).1, (h x hx).2.1⟩
  unfold moreX
  split
  · exact ⟨h, hi, Safer.mk' hs hh rfl (by simp) (Int.le_refl _) (Int.le_refl _) (Int.le_refl _) hr6 (Dn.set (nb hs.water)) e2⟩
  · split
    · exact ⟨h, hi, Safer.mk' hs hh rfl rfl (Int.le_refl _) (Int.le_refl _) (Int.le_refl _) hr6 e1 (Dn.set (nb hs.waves))⟩
    · split
      · exact key upF fun h hh => ⟨by unfold Hu.OK at hh; unfold upF; simp only; omega, Int.le_refl _, rfl⟩
      · exact key upB fun h hh => ⟨Int.le_refl _, by unfold Hu.OK at hh; unfold upB; simp only; omega, rfl⟩
theorem fst_getD {s : Su} {i : Nat} {h : Hu} (hi : s.huts[i]? = some h) : fstH s i = firstS s h := by
  unfold fstH
  rw [List.getD_eq_getElem?_getD, hi]; rfl
theorem save_safer {s x : Su} (hs : s.OK) (hx : x.OK) {many : Int} (hm : 0 ≤ many) (hn : x.huts.length = s.huts.length) (h : ∀ (i : Nat) h, s.huts[i]? = some h → ∃ g, x.huts[i]? = some g ∧ Safer x s g h) :
    ∃ l a l' b, saveF s many = some (l, a) ∧ saveF x many = some (l', b) ∧ size b ≤ size a ∧ a < 32 ∧ b < 32 :=
  save_less hs hx hm hn fun i hi hf => by
    obtain ⟨g, hg, S⟩ := h i _ (hut_get hi)
    rw [fst_getD (hut_get hi), fst_getD hg] at *
    exact first_safe S hf
/-- Of one hut: what is told of both. -/
theorem before_safe {x s : Su} {g h : Hu} (S : Safer x s g h) : ((specBefore x g).2 = 4) ∨ ((specBefore x g).2 = 0 ∧ (specBefore s h).2 = 0 ∧ (specBefore s h).1 ≤ (specBefore x g).1) := by
  unfold specBefore
  by_cases c : 0 ≤ firstS x g
  · obtain ⟨h1, h2⟩ := first_safe S c
    rw [if_pos c, if_pos h1]
    exact .inr ⟨rfl, rfl, h2⟩
  · rw [if_neg c]
    exact .inl rfl
end Go.Proofs.YtmahocdmkpigjaaDoor
