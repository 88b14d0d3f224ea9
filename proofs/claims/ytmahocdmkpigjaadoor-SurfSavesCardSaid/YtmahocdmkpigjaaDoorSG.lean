/- Proved here: laws that the statements need (SuP, SuQ). No conditions but those that each law states. -/
import Derived.Test.YtmahocdmkpigjaaDoorSD

set_option linter.unusedSimpArgs false
set_option linter.unusedVariables false

/- Truths: what is told of a hut is what all truths tell. Plain laws. -/
namespace Go.Proofs.YtmahocdmkpigjaaDoor
open Go Go.Ab

abbrev Hour := Int × Int
def nextK (step : Int) (h : Hu) (k : Nat) (o : Hour) : Nat := if liftK step h.floor o.1 o.2 k && decide (o.2 > h.brake) then k - 1 else k
theorem liftK_zero (step f w v : Int) : liftK step f w v 0 = false := rfl
theorem nextP_pow (step : Int) (h : Hu) (o : Hour) (k : Nat) : nextP step h o.1 o.2 k = 2 ^ nextK step h k o := by
  unfold nextP nextK
  cases k with
  | zero => rw [liftK_zero]; rfl
  | succ k =>
    split
    · rw [Nat.add_sub_cancel, Nat.pow_succ, Nat.mul_div_cancel _ (by decide)]
    · rfl
theorem nextK_le (step : Int) (h : Hu) (k : Nat) (o : Hour) : nextK step h k o ≤ k := by unfold nextK; split <;> omega
theorem foldG_bit (s : Su) (h : Hu) (j : Nat) : ∀ (L : List Hour) (x k : Nat), (L.foldl (stG s h j) x).testBit k = true ↔ x.testBit k = true ∨ ∃ o ∈ L, nextK s.step h j o = k
  | [], x, k => by simp
  | o :: L, x, k => by
    rw [List.foldl_cons, foldG_bit s h j L]
    unfold stG
    rw [Nat.testBit_or, nextP_pow, Nat.testBit_two_pow, Bool.or_eq_true, decide_eq_true_eq]
    simp only [List.mem_cons, exists_eq_or_imp]
    constructor
    · rintro ((h | h) | h)
      · exact .inl h
      · exact .inr (.inl h)
      · exact .inr (.inr h)
    · rintro (h | h | h)
      · exact .inl (.inl h)
      · exact .inl (.inr h)
      · exact .inr h
theorem foldPG_bit (s : Su) (h : Hu) (L : List Hour) (frm x k : Nat) : ∀ n, (foldP (stG s h) L frm x n).testBit k = true ↔ x.testBit k = true ∨ ∃ j < n, frm.testBit j = true ∧ ∃ o ∈ L, nextK s.step h j o = k
  | 0 => by simp [foldP]
  | n + 1 => by
    have ih := foldPG_bit s h L frm x k n
    simp only [foldP]
    cases hb : frm.testBit n
    · rw [if_neg (by simp), ih]
      constructor
      · rintro (h | ⟨j, hj, h⟩)
        · exact .inl h
        · exact .inr ⟨j, by omega, h⟩
      · rintro (h | ⟨j, hj, h1, h⟩)
        · exact .inl h
        · by_cases e : j = n
          · subst e; rw [hb] at h1; cases h1
          · exact .inr ⟨j, by omega, h1, h⟩
    · rw [if_pos rfl, foldG_bit, ih]
      constructor
      · rintro ((h | ⟨j, hj, h⟩) | h)
        · exact .inl h
        · exact .inr ⟨j, by omega, h⟩
        · exact .inr ⟨n, by omega, hb, h⟩
      · rintro (h | ⟨j, hj, h1, h⟩)
        · exact .inl (.inl h)
        · by_cases e : j = n
          · subst e; exact .inr h
          · exact .inl (.inr ⟨j, by omega, h1, h⟩)
theorem foldT_is (s : Su) (h : Hu) (j : Nat) : ∀ (L : List Hour) (t : Tl), ((L.foldl (stT s h j) t).1 = true ↔ t.1 = true ∨ ∃ o ∈ L, liftK s.step h.floor o.1 o.2 j = true) ∧ ((L.foldl (stT s h j) t).2 = true ↔ t.2 = true ∨ ∃ o ∈ L, liftK s.step h.floor o.1 o.2 j = false)
  | [], t => by simp
  | o :: L, t => by
    obtain ⟨i1, i2⟩ := foldT_is s h j L (stT s h j t o)
    rw [List.foldl_cons, i1, i2]
    unfold stT seeF
    simp only [List.mem_cons, exists_eq_or_imp, Bool.or_eq_true, Bool.not_eq_true', or_assoc, and_self]
theorem foldPT_is (s : Su) (h : Hu) (L : List Hour) (frm : Nat) : ∀ n, ((foldP (stT s h) L frm (false, false) n).1 = true ↔ ∃ j < n, frm.testBit j = true ∧ ∃ o ∈ L, liftK s.step h.floor o.1 o.2 j = true) ∧ ((foldP (stT s h) L frm (false, false) n).2 = true ↔ ∃ j < n, frm.testBit j = true ∧ ∃ o ∈ L, liftK s.step h.floor o.1 o.2 j = false)
  | 0 => by simp [foldP]
  | n + 1 => by
    obtain ⟨i1, i2⟩ := foldPT_is s h L frm n
    have key : ∀ (p : Nat → Prop), (∃ j < n + 1, p j) ↔ (∃ j < n, p j) ∨ p n := fun p => by
      constructor
      · rintro ⟨j, hj, h⟩
        by_cases e : j = n
        · subst e; exact .inr h
        · exact .inl ⟨j, by omega, h⟩
      · rintro (⟨j, hj, h⟩ | h)
        · exact ⟨j, by omega, h⟩
        · exact ⟨n, by omega, h⟩
    simp only [foldP, key]
    cases hb : frm.testBit n
    · rw [if_neg (by simp), i1, i2]
      simp
    · rw [if_pos rfl]
      obtain ⟨t1, t2⟩ := foldT_is s h n L (foldP (stT s h) L frm (false, false) n)
      rw [t1, t2, i1, i2]
      simp

/-- What was in the first hours, and where a hut is then: 0: it is lost. -/
def Tr (s : Su) (os : List Hour) : Prop := ∀ (i : Nat) o, os[i]? = some o → o ∈ hoursL s i
def runP (s : Su) (h : Hu) (os : List Hour) : Nat := os.foldl (nextK s.step h) (h.row.toNat + 1)
theorem runP_snoc (s : Su) (h : Hu) (os : List Hour) (o : Hour) : runP s h (os ++ [o]) = nextK s.step h (runP s h os) o := by unfold runP; rw [List.foldl_append]; rfl
theorem Tr_snoc {s : Su} {os : List Hour} {o : Hour} : Tr s (os ++ [o]) ↔ Tr s os ∧ o ∈ hoursL s os.length := by
  constructor
  · intro h
    refine ⟨fun i x hx => h i x ?_, h os.length o (by simp)⟩
    rw [List.getElem?_append_left (List.getElem?_eq_some_iff.1 hx).1]; exact hx
  · rintro ⟨h1, h2⟩ i x hx
    by_cases c : i < os.length
    · rw [List.getElem?_append_left c] at hx; exact h1 i x hx
    · have hl := (List.getElem?_eq_some_iff.1 hx).1
      rw [List.length_append, List.length_singleton] at hl
      have : i = os.length := by omega
      subst this
      simp at hx; subst hx; exact h2
theorem runP_le (s : Su) (h : Hu) (os : List Hour) : runP s h os ≤ h.row.toNat + 1 := by
  have : ∀ (os : List Hour) (k : Nat), os.foldl (nextK s.step h) k ≤ k := fun os => by
    induction os with
    | nil => intro k; exact Nat.le_refl _
    | cons o os ih => intro k; exact Nat.le_trans (ih _) (nextK_le _ _ _ _)
  exact this os _
theorem snoc_cases {α : Type} (l : List α) {n : Nat} (h : l.length = n + 1) : ∃ l' x, l = l' ++ [x] ∧ l'.length = n :=
  ⟨l.dropLast, l.getLast (by intro e; rw [e] at h; simp at h), (List.dropLast_concat_getLast _).symm, by rw [List.length_dropLast]; omega⟩
theorem log_mem (s : Su) (h : Hu) (hr : 0 ≤ h.row ∧ h.row < 6) : ∀ (t k : Nat), (logS s h t).testBit k = true ↔ ∃ os : List Hour, os.length = t ∧ Tr s os ∧ runP s h os = k
  | 0, k => by
    show (2 ^ (h.row.toNat + 1)).testBit k = true ↔ _
    rw [Nat.testBit_two_pow, decide_eq_true_eq]
    constructor
    · intro e; exact ⟨[], rfl, fun i o h => by simp at h, e⟩
    · rintro ⟨os, hl, _, e⟩
      rw [List.eq_nil_of_length_eq_zero hl] at e
      exact e
  | t + 1, k => by
    show (foldP (stG s h) (hoursL s t) (logS s h t) 0 8).testBit k = true ↔ _
    rw [foldPG_bit]
    simp only [Nat.zero_testBit, Bool.false_eq_true, false_or, log_mem s h hr t]
    constructor
    · rintro ⟨j, hj, ⟨os, hl, ht, e⟩, o, ho, e2⟩
      exact ⟨os ++ [o], by simp [hl], Tr_snoc.2 ⟨ht, by rw [hl]; exact ho⟩, by rw [runP_snoc, e, e2]⟩
    · rintro ⟨os, hl, ht, e⟩
      obtain ⟨os', o, rfl, hl'⟩ := snoc_cases os hl
      obtain ⟨h1, h2⟩ := Tr_snoc.1 ht
      rw [hl'] at h2
      rw [runP_snoc] at e
      exact ⟨runP s h os', by have := runP_le s h os'; omega, ⟨os', hl', h1, rfl⟩, o, h2, e⟩
/-- It floats in an hour, in such a truth. -/
def Flo (s : Su) (h : Hu) (os : List Hour) (o : Hour) : Bool := liftK s.step h.floor o.1 o.2 (runP s h os)
theorem tal_is (s : Su) (h : Hu) (hr : 0 ≤ h.row ∧ h.row < 6) (i : Nat) : ((talS s h i).1 = true ↔ ∃ os o, os.length = i ∧ Tr s (os ++ [o]) ∧ Flo s h os o = true) ∧ ((talS s h i).2 = true ↔ ∃ os o, os.length = i ∧ Tr s (os ++ [o]) ∧ Flo s h os o = false) := by
  have hb : ∀ b : Bool, (∃ j < 8, (logS s h i).testBit j = true ∧ ∃ o ∈ hoursL s i, liftK s.step h.floor o.1 o.2 j = b) ↔ ∃ os o, os.length = i ∧ Tr s (os ++ [o]) ∧ Flo s h os o = b := fun b => by
    simp only [log_mem s h hr]
    constructor
    · rintro ⟨j, _, ⟨os, hl, ht, e⟩, o, ho, e2⟩
      exact ⟨os, o, hl, Tr_snoc.2 ⟨ht, by rw [hl]; exact ho⟩, by unfold Flo; rw [e]; exact e2⟩
    · rintro ⟨os, o, hl, ht, e⟩
      obtain ⟨h1, h2⟩ := Tr_snoc.1 ht
      exact ⟨runP s h os, by have := runP_le s h os; omega, ⟨os, hl, h1, rfl⟩, o, by rw [← hl]; exact h2, e⟩
  unfold talS
  obtain ⟨t1, t2⟩ := foldPT_is s h (hoursL s i) (logS s h i) 8
  rw [t1, t2]
  exact ⟨hb true, hb false⟩
theorem canB_iff (s : Su) (h : Hu) (hr : 0 ≤ h.row ∧ h.row < 6) (i : Nat) : canB s h i = true ↔ ∃ os o, os.length = i ∧ Tr s (os ++ [o]) ∧ Flo s h os o = true := (tal_is s h hr i).1
theorem sureB_iff (s : Su) (h : Hu) (hr : 0 ≤ h.row ∧ h.row < 6) (i : Nat) : sureB s h i = true ↔ ∀ os o, os.length = i → Tr s (os ++ [o]) → Flo s h os o = true := by
  unfold sureB
  rw [Bool.not_eq_true', ← Bool.not_eq_true, (tal_is s h hr i).2]
  constructor
  · intro h os o hl ht
    cases hf : Flo s _ os o
    · exact absurd ⟨os, o, hl, ht, hf⟩ h
    · rfl
  · rintro h ⟨os, o, hl, ht, hf⟩
    rw [h os o hl ht] at hf; cases hf
theorem tals_at (s : Su) (h : Hu) {i : Nat} (hl : i < (talsS s h).length) : (talsS s h)[i] = talS s h i := by
  have := tals_get s h (j := i) (by simpa [talsS] using hl)
  rw [List.getElem?_eq_getElem hl] at this
  exact Option.some.inj this
/-- The first hour in which it can float. -/
theorem first_neg (s : Su) (h : Hu) : firstS s h < 0 ↔ ∀ i < s.water.length, canB s h i = false := by
  unfold firstS
  cases hf : (talsS s h).findIdx? (·.1) with
  | none =>
    simp only [Int.reduceNeg, Int.reduceLT, true_iff]
    intro i hi
    have := List.findIdx?_eq_none_iff.1 hf (talS s h i) (by unfold talsS; exact List.mem_map_of_mem (List.mem_range.2 hi))
    exact this
  | some i =>
    obtain ⟨hl, hp, _⟩ := List.findIdx?_eq_some_iff_getElem.1 hf
    have hl' : i < s.water.length := by simpa [talsS] using hl
    rw [tals_at] at hp
    constructor
    · intro h; change ((i : Nat) : Int) < 0 at h; omega
    · intro h
      have := h i hl'
      unfold canB at this
      rw [hp] at this; cases this
theorem first_at (s : Su) (h : Hu) (hf : 0 ≤ firstS s h) : ∃ i : Nat, firstS s h = i ∧ i < s.water.length ∧ canB s h i = true ∧ ∀ j < i, canB s h j = false := by
  unfold firstS at hf ⊢
  cases hx : (talsS s h).findIdx? (·.1) with
  | none => rw [hx] at hf; simp at hf
  | some i =>
    obtain ⟨hl, hp, hq⟩ := List.findIdx?_eq_some_iff_getElem.1 hx
    have hl' : i < s.water.length := by simpa [talsS] using hl
    rw [tals_at] at hp
    refine ⟨i, rfl, hl', hp, fun j hj => ?_⟩
    have := hq j hj
    rw [tals_at] at this
    unfold canB
    simpa using this
end Go.Proofs.YtmahocdmkpigjaaDoor

/- SurfEnough: plain laws. -/
namespace Go.Proofs.YtmahocdmkpigjaaDoor
open Go Go.Ab

theorem leastN_spec (p : Nat → Bool) (N : Nat) : leastN p N ≤ N ∧ (∀ i < leastN p N, p i = false) ∧ (leastN p N < N → p (leastN p N) = true) := by
  unfold leastN
  cases h : (List.range N).find? p with
  | none =>
    rw [List.find?_eq_none] at h
    refine ⟨Nat.le_refl _, fun i hi => ?_, fun h => absurd h (Nat.lt_irrefl _)⟩
    have := h i (List.mem_range.2 hi)
    simpa using this
  | some j =>
    rw [List.find?_range_eq_some] at h
    obtain ⟨h1, h2, h3⟩ := h
    have := List.mem_range.1 h2
    refine ⟨by simp only [Option.getD_some]; omega, fun i hi => ?_, fun _ => h1⟩
    have := h3 i hi
    simpa using this
/-- What is fine from some number on is just so from the least one on. -/
theorem leastN_iff {p : Nat → Bool} {N : Nat} (hm : ∀ m m', m ≤ m' → p m = true → p m' = true) (ht : p N = true) (n : Nat) : p n = decide (leastN p N ≤ n) := by
  obtain ⟨h1, h2, h3⟩ := leastN_spec p N
  have h4 : p (leastN p N) = true := by
    by_cases c : leastN p N < N
    · exact h3 c
    · rw [show leastN p N = N by omega]; exact ht
  by_cases c : leastN p N ≤ n
  · rw [hm _ _ c h4, decide_eq_true c]
  · rw [h2 n (by omega), decide_eq_false c]

def withH (s : Su) (n : Nat) (fl br : Int) : Su := { s with huts := s.huts.set n ⟨fl, br, (s.huts.getD n ⟨0, 0, 0⟩).row⟩ }
theorem logS_huts (s : Su) (H : List Hu) (h : Hu) : ∀ k, logS { s with huts := H } h k = logS s h k
  | 0 => rfl
  | k + 1 => by
    show foldP (stG { s with huts := H } h) (hoursL { s with huts := H } k) (logS { s with huts := H } h k) 0 8 = _
    rw [logS_huts s H h k]
    rfl
theorem talS_huts (s : Su) (H : List Hu) (h : Hu) (k : Nat) : talS { s with huts := H } h k = talS s h k := by
  unfold talS
  rw [logS_huts]
  rfl
theorem firstS_huts (s : Su) (H : List Hu) (h : Hu) : firstS { s with huts := H } h = firstS s h := by
  have : talsS { s with huts := H } h = talsS s h := by
    unfold talsS
    exact List.map_congr_left fun i _ => talS_huts s H h i
  unfold firstS
  rw [this]
theorem canM_huts (s : Su) (H : List Hu) (h : Hu) : canM { s with huts := H } h = canM s h := by
  have : canB { s with huts := H } h = canB s h := by
    funext i
    unfold canB
    rw [talS_huts]
  show maskOf (canB { s with huts := H } h) s.water.length = _
  rw [this]
theorem withH_OK {s : Su} (hs : s.OK) {n : Nat} {hu : Hu} (hg : s.huts[n]? = some hu) {fl br : Int} (h1 : 0 ≤ fl ∧ fl ≤ 40) (h2 : 0 ≤ br ∧ br ≤ 10) : (withH s n fl br).OK ∧ (withH s n fl br).huts[n]? = some ⟨fl, br, hu.row⟩ := by
  have hn := (List.getElem?_eq_some_iff.1 hg).1
  have hgd : s.huts.getD n ⟨0, 0, 0⟩ = hu := by rw [List.getD_eq_getElem?_getD, hg]; rfl
  have hh := hs.huts _ (List.mem_of_getElem? hg)
  refine ⟨⟨hs.rows, hs.step, hs.nw, hs.nv, by unfold withH; simpa using hs.nh, hs.water, hs.waves, fun h hm => ?_⟩, ?_⟩
  · unfold withH at hm
    rcases List.mem_or_eq_of_mem_set hm with h | h
    · exact hs.huts _ h
    · rw [h, hgd]
      exact ⟨h1.1, h1.2, h2.1, h2.2, hh.2.2.2.2.1, hh.2.2.2.2.2⟩
  · unfold withH
    rw [hgd]
    exact List.getElem?_set_self hn

theorem hours_bnd {s : Su} (hs : s.OK) {i : Nat} (hi : i < s.water.length) {o : Hour} (ho : o ∈ hoursL s i) : 0 ≤ o.1 ∧ o.1 ≤ 30 ∧ 0 ≤ o.2 ∧ o.2 ≤ 10 := by
  have hx : s.water[i]? = some s.water[i] := List.getElem?_eq_getElem hi
  have hnv := hs.nv
  have hy : s.waves[i]? = some s.waves[i] := List.getElem?_eq_getElem (by omega)
  rw [hoursL_eq hx hy] at ho
  have bx := hs.water _ (List.mem_of_getElem? hx)
  have by_ := hs.waves _ (List.mem_of_getElem? hy)
  have := hoursP_bnd bx by_ ho
  unfold Near at bx by_
  omega
theorem Tr_bnd {s : Su} (hs : s.OK) {os : List Hour} (ht : Tr s os) (hl : os.length ≤ s.water.length) {o : Hour} (ho : o ∈ os) : 0 ≤ o.1 ∧ o.1 ≤ 30 ∧ 0 ≤ o.2 ∧ o.2 ≤ 10 := by
  obtain ⟨i, hi⟩ := List.getElem?_of_mem ho
  have := (List.getElem?_eq_some_iff.1 hi).1
  exact hours_bnd hs (by omega) (ht i o hi)

/-! ### Brakes -/
theorem run_brake (step : Int) (h : Hu) {m m' : Nat} (hm : m ≤ m') : ∀ (os : List Hour) {k k' : Nat}, k ≤ k' → os.foldl (nextK step (hB h m)) k ≤ os.foldl (nextK step (hB h m')) k'
  | [], _, _, hk => hk
  | o :: os, k, k', hk => by
    refine run_brake step h hm os ?_
    unfold nextK hB
    simp only
    by_cases e : k = k'
    · subst e
      by_cases c : (liftK step h.floor o.1 o.2 k && decide (o.2 > (m' : Int))) = true
      · rw [if_pos c]
        rw [Bool.and_eq_true, decide_eq_true_eq] at c
        rw [if_pos (by rw [Bool.and_eq_true, decide_eq_true_eq]; exact ⟨c.1, by omega⟩)]
        exact Nat.le_refl _
      · rw [if_neg c]
        split <;> omega
    · split <;> split <;> omega
theorem holds_iff (s : Su) (h : Hu) (hr : 0 ≤ h.row ∧ h.row < 6) (m : Nat) : holdsB s h m = true ↔ ∀ os, os.length = s.water.length → Tr s os → runP s (hB h m) os ≠ 0 := by
  unfold holdsB
  rw [Bool.not_eq_true', ← Bool.not_eq_true, log_mem s (hB h m) hr]
  constructor
  · intro h1 os hl ht e; exact h1 ⟨os, hl, ht, e⟩
  · rintro h1 ⟨os, hl, ht, e⟩; exact h1 os hl ht e
theorem holds_mono (s : Su) (h : Hu) (hr : 0 ≤ h.row ∧ h.row < 6) (m m' : Nat) (hm : m ≤ m') (h1 : holdsB s h m = true) : holdsB s h m' = true := by
  rw [holds_iff s h hr] at h1 ⊢
  intro os hl ht e
  have := run_brake s.step h hm os (Nat.le_refl (h.row.toNat + 1))
  have h2 := h1 os hl ht
  unfold runP hB at h2 e
  unfold hB at this
  simp only at h2 e this
  omega
theorem holds_top (s : Su) (hs : s.OK) (h : Hu) (hr : 0 ≤ h.row ∧ h.row < 6) : holdsB s h 10 = true := by
  rw [holds_iff s h hr]
  intro os hl ht
  have key : ∀ (os : List Hour) (k : Nat), (∀ o ∈ os, o.2 ≤ 10) → os.foldl (nextK s.step (hB h 10)) k = k := fun os => by
    induction os with
    | nil => intro k _; rfl
    | cons o os ih =>
      intro k hb
      have h1 := hb o (by simp)
      have : nextK s.step (hB h 10) k o = k := by
        unfold nextK hB
        simp only
        rw [if_neg]
        rw [Bool.and_eq_true, decide_eq_true_eq]
        omega
      rw [List.foldl_cons, this]
      exact ih k fun o ho => hb o (by simp [ho])
  unfold runP
  rw [key os _ fun o ho => (Tr_bnd hs ht (by omega) ho).2.2.2]
  omega

/-! ### Floors -/
theorem rests_iff (s : Su) (h : Hu) (hr : 0 ≤ h.row ∧ h.row < 6) (n : Nat) : restsF s h n = true ↔ ∀ os o, os.length < s.water.length → Tr s (os ++ [o]) → Flo s (hF h n) os o = false := by
  unfold restsF
  rw [decide_eq_true_eq, first_neg]
  constructor
  · intro h1 os o hl ht
    have h2 := h1 os.length hl
    rw [← Bool.not_eq_true, canB_iff s (hF h n) hr] at h2
    rw [← Bool.not_eq_true]
    exact fun e => h2 ⟨os, o, rfl, ht, e⟩
  · intro h1 i hi
    rw [← Bool.not_eq_true, canB_iff s (hF h n) hr]
    rintro ⟨os, o, hl, ht, e⟩
    rw [h1 os o (by omega) ht] at e
    cases e
/-- Where nothing floats nothing moves. -/
theorem rests_run (s : Su) (h : Hu) : ∀ (t : Nat) (os : List Hour), os.length = t → (∀ i, i < t → ∀ o, os[i]? = some o → liftK s.step h.floor o.1 o.2 (h.row.toNat + 1) = false) → runP s h os = h.row.toNat + 1
  | 0, os, hl, _ => by rw [List.eq_nil_of_length_eq_zero hl]; rfl
  | t + 1, os, hl, hn => by
    obtain ⟨os', o, rfl, hl'⟩ := snoc_cases os hl
    have ih := rests_run s h t os' hl' fun i hi x hx => hn i (by omega) x (by rw [List.getElem?_append_left (by omega)]; exact hx)
    have h1 := hn t (by omega) o (by rw [List.getElem?_append_right (by omega), hl', Nat.sub_self]; rfl)
    rw [runP_snoc, ih]
    unfold nextK
    rw [h1]
    rfl
theorem rests_row (s : Su) (h : Hu) (n : Nat) (hn : ∀ os o, os.length < s.water.length → Tr s (os ++ [o]) → Flo s (hF h n) os o = false) : ∀ (t : Nat) (os : List Hour), os.length = t → t ≤ s.water.length → Tr s os → runP s (hF h n) os = h.row.toNat + 1
  | 0, os, hl, _, _ => by rw [List.eq_nil_of_length_eq_zero hl]; rfl
  | t + 1, os, hl, hw, ht => by
    obtain ⟨os', o, rfl, hl'⟩ := snoc_cases os hl
    have ih := rests_row s h n hn t os' hl' (by omega) (Tr_snoc.1 ht).1
    have h1 := hn os' o (by omega) ht
    unfold Flo at h1
    rw [runP_snoc]
    unfold nextK
    rw [h1]
    exact ih
theorem lift_floor {step f f' w v : Int} {k : Nat} (hf : f ≤ f') (h : liftK step f w v k = false) : liftK step f' w v k = false := by
  unfold liftK at h ⊢
  cases h0 : (k == 0)
  · rw [h0] at h
    simp only [Bool.not_false, Bool.true_and] at h ⊢
    cases h1 : decide (deepI step w (k - 1) > 0)
    · rfl
    · rw [h1, Bool.true_and] at h
      have := of_decide_eq_false h
      rw [Bool.true_and]
      exact decide_eq_false (by omega)
  · rfl
theorem rests_mono (s : Su) (h : Hu) (hr : 0 ≤ h.row ∧ h.row < 6) (n n' : Nat) (hn : n ≤ n') (h1 : restsF s h n = true) : restsF s h n' = true := by
  rw [rests_iff s h hr] at h1 ⊢
  have key : ∀ os o, os.length < s.water.length → Tr s (os ++ [o]) → liftK s.step (n : Int) o.1 o.2 (h.row.toNat + 1) = false := fun os o hl ht => by
    have h2 := h1 os o hl ht
    unfold Flo at h2
    rw [rests_row s h n h1 os.length os rfl (by omega) (Tr_snoc.1 ht).1] at h2
    exact h2
  intro os o hl ht
  have hrun : runP s (hF h n') os = h.row.toNat + 1 := by
    refine rests_run s (hF h n') os.length os rfl fun i hi x hx => ?_
    have h3 : Tr s (os.take i ++ [x]) := by
      have e : os.take i ++ [x] = os.take (i + 1) := by rw [List.take_add_one, hx]; rfl
      rw [e]
      intro j y hy
      rw [List.getElem?_take] at hy
      split at hy
      · exact (Tr_snoc.1 ht).1 j y hy
      · cases hy
    exact lift_floor (show (n : Int) ≤ (n' : Int) by omega) (key (os.take i) x (by rw [List.length_take]; omega) h3)
  unfold Flo
  rw [hrun]
  exact lift_floor (show (n : Int) ≤ (n' : Int) by omega) (key os o hl ht)
theorem rests_top (s : Su) (hs : s.OK) (h : Hu) (hr : 0 ≤ h.row ∧ h.row < 6) : restsF s h 40 = true := by
  rw [rests_iff s h hr]
  intro os o hl ht
  have hb := Tr_bnd hs ht (by simp; omega) (o := o) (by simp)
  have hst := hs.step
  unfold Flo
  generalize hk : runP s (hF h 40) os = k
  unfold liftK hF
  simp only
  cases h0 : (k == 0)
  · have hk0 : k ≠ 0 := by simpa using h0
    have hk8 : k ≤ 6 := by have := runP_le s (hF h 40) os; rw [hk] at this; unfold hF at this; simp only at this; omega
    have hm := mul_bnd hst (b := (k : Int) - 1) (by omega)
    have hmn : 0 ≤ s.step * ((k : Int) - 1) := Int.mul_nonneg hst.1 (by omega)
    simp only [Bool.not_false, Bool.true_and]
    rw [Bool.and_eq_false_iff]
    right
    refine decide_eq_false ?_
    unfold deepI
    omega
  · rfl
end Go.Proofs.YtmahocdmkpigjaaDoor
