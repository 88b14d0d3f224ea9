/- Proved here: laws that the statements need (WzX1). No conditions but those that each law states. -/
import Derived.Test.YtnmmhkkmejbckaaGreatDoorYJ
import Derived.Test.YtnmmhkkmejbckaaGreatDoorYD

set_option linter.unusedSimpArgs false
set_option linter.unusedVariables false

/- Which finds clash: the least set is found, and those of it fit fewer owners than they are (by alternating ways). Plain laws. -/
namespace Go.Proofs.YtnmmhkkmejbckaaGreatDoor
open Go Go.Ab

/-! ### The least set that clashes -/
theorem clashSet_succ (f : List Nat) (m k s : Nat) : clashSet f m (k + 1) s = if clashB f m s then some s else clashSet f m k (s + 1) := rfl
theorem clashUp_succ (f : List Nat) (k m : Nat) : clashUp f (k + 1) m = match clashSet f m (2 ^ f.length) 0 with
    | some s => some s
    | none => clashUp f k (m + 1) := rfl
theorem clashSet_some {f : List Nat} {m : Nat} (k : Nat) : ∀ {s x : Nat}, clashSet f m k s = some x → s ≤ x ∧ x < s + k ∧ clashB f m x = true ∧ ∀ y, s ≤ y → y < x → clashB f m y = false := by
  induction k with
  | zero => intro s x h; cases h
  | succ k ih =>
    intro s x h
    rw [clashSet_succ] at h
    generalize hB : clashB f m = B at *
    cases hc : B s
    · rw [hc] at h
      simp only [Bool.false_eq_true, if_false] at h
      obtain ⟨a, b, c, d⟩ := ih h
      refine ⟨by omega, by omega, c, fun y h1 h2 => ?_⟩
      rcases Nat.lt_or_ge s y with h3 | h3
      · exact d y h3 h2
      · rw [show y = s by omega]; exact hc
    · rw [hc] at h
      simp only [if_true, Option.some.injEq] at h
      subst h
      exact ⟨Nat.le_refl _, by omega, hc, fun y h1 h2 => by omega⟩
theorem clashSet_none {f : List Nat} {m : Nat} (k : Nat) : ∀ {s : Nat}, clashSet f m k s = none → ∀ y, s ≤ y → y < s + k → clashB f m y = false := by
  induction k with
  | zero => intro s h y h1 h2; omega
  | succ k ih =>
    intro s h
    rw [clashSet_succ] at h
    generalize hB : clashB f m = B at *
    cases hc : B s
    · rw [hc] at h
      simp only [Bool.false_eq_true, if_false] at h
      intro y h1 h2
      rcases Nat.lt_or_ge s y with h3 | h3
      · exact ih h y h3 (by omega)
      · rw [show y = s by omega]; exact hc
    · rw [hc] at h
      simp at h
theorem clashB_iff {f : List Nat} {m y : Nat} : clashB f m y = true ↔ size y = m ∧ waysN (pick f y) = 0 := by
  unfold clashB
  rw [Bool.and_eq_true, decide_eq_true_eq, decide_eq_true_eq]
theorem clashUp_some {f : List Nat} (k : Nat) : ∀ {m x : Nat}, clashUp f k m = some x → x < 2 ^ f.length ∧ waysN (pick f x) = 0 ∧ ∀ y, y < 2 ^ f.length → m ≤ size y → waysN (pick f y) = 0 → size x < size y ∨ (size x = size y ∧ x ≤ y) := by
  induction k with
  | zero => intro m x h; cases h
  | succ k ih =>
    intro m x h
    rw [clashUp_succ] at h
    cases hc : clashSet f m (2 ^ f.length) 0 with
    | some s =>
      rw [hc] at h
      simp only [Option.some.injEq] at h
      subst h
      obtain ⟨-, a, b, c⟩ := clashSet_some _ hc
      obtain ⟨b1, b2⟩ := clashB_iff.1 b
      refine ⟨by omega, b2, fun y h1 h2 h3 => ?_⟩
      rcases Nat.lt_or_ge m (size y) with h4 | h4
      · exact .inl (by omega)
      · refine .inr ⟨by omega, ?_⟩
        rcases Nat.lt_or_ge y s with h5 | h5
        · have := c y (by omega) h5
          rw [clashB_iff.2 ⟨by omega, h3⟩] at this
          cases this
        · exact h5
    | none =>
      rw [hc] at h
      simp only at h
      obtain ⟨a, b, c⟩ := ih h
      refine ⟨a, b, fun y h1 h2 h3 => ?_⟩
      rcases Nat.lt_or_ge m (size y) with h4 | h4
      · exact c y h1 h4 h3
      · have := clashSet_none _ hc y (by omega) (by omega)
        rw [clashB_iff.2 ⟨by omega, h3⟩] at this
        cases this
theorem clashUp_none {f : List Nat} (k : Nat) : ∀ {m : Nat}, clashUp f k m = none → ∀ y, y < 2 ^ f.length → m ≤ size y → size y < m + k → waysN (pick f y) ≠ 0 := by
  induction k with
  | zero => intro m h y _ h1 h2; omega
  | succ k ih =>
    intro m h
    rw [clashUp_succ] at h
    cases hc : clashSet f m (2 ^ f.length) 0 with
    | some s => rw [hc] at h; cases h
    | none =>
      rw [hc] at h
      simp only at h
      intro y h1 h2 h3 h4
      rcases Nat.lt_or_ge m (size y) with h5 | h5
      · exact ih h y h1 h5 (by omega) h4
      · have := clashSet_none _ hc y (by omega) (by omega)
        rw [clashB_iff.2 ⟨by omega, h4⟩] at this
        cases this
theorem pickN_all (f : List Nat) (s : Nat) : ∀ j, j ≤ f.length → (∀ i, i < j → s.testBit i = true) → pickN f s j = f.take j
  | 0, _, _ => by simp [pickN]
  | j + 1, hj, h => by
    unfold pickN
    rw [pickN_all f s j (by omega) (fun i hi => h i (by omega)), h j (by omega), if_pos rfl, List.take_add_one, List.getElem?_eq_getElem (by omega), List.getD_eq_getElem?_getD, List.getElem?_eq_getElem (by omega)]
    rfl
theorem pick_all (f : List Nat) : pick f (2 ^ f.length - 1) = f := by
  unfold pick
  rw [pickN_all f _ _ (Nat.le_refl _) (fun i hi => by rw [Nat.testBit_two_pow_sub_one]; exact decide_eq_true hi), List.take_length]
theorem pick_none (f : List Nat) : pick f 0 = [] := by
  unfold pick
  generalize f.length = j
  induction j with
  | zero => rfl
  | succ j ih => unfold pickN; rw [ih]; simp
theorem size_all : ∀ n : Nat, n < 5 → size (2 ^ n - 1) = n := by decide +kernel
theorem size_in : ∀ n : Nat, n < 5 → ∀ y : Nat, y < 16 → y < 2 ^ n → size y ≤ n := by decide +kernel
theorem clash_law {f : List Nat} (h4 : f.length ≤ 4) (hz : waysN f = 0) : ∃ s, clashF f = some s ∧ s < 2 ^ f.length ∧ 1 ≤ s ∧ waysN (pick f s) = 0 ∧ ∀ y, y < 2 ^ f.length → waysN (pick f y) = 0 → size s < size y ∨ (size s = size y ∧ s ≤ y) := by
  have hp := Nat.two_pow_pos f.length
  cases hc : clashF f with
  | none =>
    exfalso
    refine clashUp_none _ hc (2 ^ f.length - 1) (by omega) (Nat.zero_le _) ?_ ?_
    · rw [size_all _ (by omega)]; omega
    · rw [pick_all]; exact hz
  | some s =>
    obtain ⟨a, b, c⟩ := clashUp_some _ hc
    refine ⟨s, rfl, a, ?_, b, fun y h1 h2 => c y h1 (Nat.zero_le _) h2⟩
    rcases Nat.eq_zero_or_pos s with h | h
    · subst h
      rw [pick_none] at b
      exact absurd b (by decide)
    · exact h

/-! ### Truths of the finds of a set -/
theorem pick_eq (f : List Nat) (s : Nat) : pick f s = ((List.range f.length).filter fun j => s.testBit j).map fun j => f.getD j 0 := by
  unfold pick
  suffices h : ∀ j, pickN f s j = ((List.range j).filter fun j => s.testBit j).map fun j => f.getD j 0 from h _
  intro j
  induction j with
  | zero => rfl
  | succ j ih =>
    unfold pickN
    rw [ih, List.range_succ, List.filter_append, List.map_append]
    congr 1
    cases h : s.testBit j <;> simp [h]
/-- Each find of some finds another owner's, who fits. -/
def Each (f : List Nat) (S : Nat → Prop) (φ : Nat → Nat) : Prop := (∀ j, S j → (f.getD j 0).testBit (φ j) = true) ∧ ∀ a b, S a → S b → φ a = φ b → a = b
theorem pick_ways {f : List Nat} (h5 : ∀ x ∈ f, ∀ o, x.testBit o = true → o < 5) {s : Nat} : waysN (pick f s) ≠ 0 ↔ ∃ φ, Each f (fun j => j < f.length ∧ s.testBit j = true) φ := by
  rw [ways_pos, pick_eq]
  have hI : ∀ j, j ∈ (List.range f.length).filter (fun j => s.testBit j) ↔ j < f.length ∧ s.testBit j = true := fun j => by rw [List.mem_filter, List.mem_range]
  have hn : ((List.range f.length).filter (fun j => s.testBit j)).Nodup := List.nodup_range.filter _
  generalize (List.range f.length).filter (fun j => s.testBit j) = I at *
  constructor
  · rintro ⟨l, hl⟩
    obtain ⟨a, b, c⟩ := truths_mem.1 hl
    rw [List.length_map] at a
    have hat : ∀ j, j ∈ I → I.idxOf j < l.length ∧ l[I.idxOf j]? = some (l.getD (I.idxOf j) 0) ∧ I[I.idxOf j]? = some j := fun j hj => by
      have h1 := List.idxOf_lt_length_iff.2 hj
      refine ⟨by omega, ?_, ?_⟩
      · rw [List.getD_eq_getElem?_getD, List.getElem?_eq_getElem (by omega)]; rfl
      · rw [List.getElem?_eq_getElem h1, List.getElem_idxOf]
    refine ⟨fun j => l.getD (I.idxOf j) 0, fun j hj => ?_, fun x y hx hy e => ?_⟩
    · obtain ⟨h1, h2, h3⟩ := hat j ((hI j).2 hj)
      have := (c _ _ h2).1
      rw [List.getD_eq_getElem?_getD, List.getElem?_map, h3] at this
      exact this
    · obtain ⟨h1, h2, h3⟩ := hat x ((hI x).2 hx)
      obtain ⟨k1, k2, k3⟩ := hat y ((hI y).2 hy)
      simp only at e
      rw [e, ← k2] at h2
      have h4 : I.idxOf x = I.idxOf y := (List.getElem?_inj h1 b).1 h2
      rw [h4, k3] at h3
      exact (Option.some.inj h3).symm
  · rintro ⟨φ, h1, h2⟩
    have hb : ∀ j, j ∈ I → φ j < 5 := fun j hj => by
      have hj' := (hI j).1 hj
      refine h5 (f.getD j 0) ?_ _ (h1 j hj')
      rw [List.getD_eq_getElem?_getD, List.getElem?_eq_getElem hj'.1]
      exact List.getElem_mem _
    refine ⟨I.map φ, truths_mem.2 ⟨by simp, nodup_map_inj (fun a ha b hb e => h2 a b ((hI a).1 ha) ((hI b).1 hb) e) hn, fun p i hp => ?_⟩⟩
    rw [List.getElem?_map] at hp
    cases hx : I[p]? with
    | none => rw [hx] at hp; cases hp
    | some j =>
      rw [hx] at hp
      cases hp
      have hj := List.mem_of_getElem? hx
      refine ⟨?_, hb j hj⟩
      rw [List.getD_eq_getElem?_getD, List.getElem?_map, hx]
      exact h1 j ((hI j).1 hj)

/-! ### Alternating ways -/
/-- Owners that are come to, in so many steps, from a find that has none. -/
def Reach (f : List Nat) (S : Nat → Prop) (x : Nat) (φ : Nat → Nat) : Nat → Nat → Prop
  | 0, o => (f.getD x 0).testBit o = true
  | k + 1, o => ∃ z, S z ∧ z ≠ x ∧ Reach f S x φ k (φ z) ∧ (f.getD z 0).testBit o = true
theorem augment {f : List Nat} {S : Nat → Prop} {x : Nat} : ∀ (k : Nat) (φ : Nat → Nat), Each f (fun j => S j ∧ j ≠ x) φ → ∀ o, Reach f S x φ k o → (∀ j, S j → j ≠ x → φ j ≠ o) → ∃ ψ, Each f S ψ := by
  intro k
  induction k using Nat.strongRecOn with
  | _ k ih =>
    intro φ hφ o hr hfree
    cases k with
    | zero =>
      refine ⟨fun j => if j = x then o else φ j, fun j hj => ?_, fun a b ha hb e => ?_⟩
      · by_cases h : j = x
        · simp only [h, if_true]; exact hr
        · simp only [if_neg h]; exact hφ.1 j ⟨hj, h⟩
      · have e : (if a = x then o else φ a) = (if b = x then o else φ b) := e
        by_cases h : a = x
        · by_cases h' : b = x
          · rw [h, h']
          · rw [if_pos h, if_neg h'] at e; exact absurd e.symm (hfree b hb h')
        · by_cases h' : b = x
          · rw [if_neg h, if_pos h'] at e; exact absurd e (hfree a ha h)
          · rw [if_neg h, if_neg h'] at e; exact hφ.2 a b ⟨ha, h⟩ ⟨hb, h'⟩ e
    | succ k =>
      obtain ⟨z, hz, hzx, hk, hA⟩ := hr
      have step : ∀ m q, Reach f S x φ m q → Reach f S x (fun j => if j = z then o else φ j) m q ∨ ∃ j, j < m ∧ Reach f S x (fun j => if j = z then o else φ j) j (φ z) := by
        intro m
        induction m with
        | zero => intro q h; exact .inl h
        | succ m ihm =>
          rintro q ⟨w, hw, hwx, h1, h2⟩
          rcases ihm _ h1 with h | ⟨j, hj, h⟩
          · by_cases e : w = z
            · exact .inr ⟨m, by omega, by rw [e] at h; exact h⟩
            · refine .inl ⟨w, hw, hwx, ?_, h2⟩
              show Reach f S x (fun j => if j = z then o else φ j) m (if w = z then o else φ w)
              rw [if_neg e]
              exact h
          · exact .inr ⟨j, by omega, h⟩
      obtain ⟨j, hj, hr'⟩ : ∃ j, j < k + 1 ∧ Reach f S x (fun j => if j = z then o else φ j) j (φ z) := by
        rcases step k _ hk with h | ⟨j, hj, h⟩
        · exact ⟨k, by omega, h⟩
        · exact ⟨j, by omega, h⟩
      refine ih j hj _ ⟨fun a ha => ?_, fun a b ha hb e => ?_⟩ (φ z) hr' (fun a ha hax => ?_)
      · by_cases h : a = z
        · simp only [h, if_true]; exact hA
        · simp only [if_neg h]; exact hφ.1 a ha
      · have e : (if a = z then o else φ a) = (if b = z then o else φ b) := e
        by_cases h : a = z
        · by_cases h' : b = z
          · rw [h, h']
          · rw [if_pos h, if_neg h'] at e; exact absurd e.symm (hfree b hb.1 hb.2)
        · by_cases h' : b = z
          · rw [if_neg h, if_pos h'] at e; exact absurd e (hfree a ha.1 ha.2)
          · rw [if_neg h, if_neg h'] at e; exact hφ.2 a b ha hb e
      · by_cases h : a = z
        · simp only [h, if_true]
          intro e
          exact hfree z hz hzx e.symm
        · simp only [if_neg h]
          intro e
          exact h (hφ.2 a z ⟨ha, hax⟩ ⟨hz, hzx⟩ e)
/-- Of finds that clash, though without any one of them they do not: the owners that fit one are had by the others. -/
theorem crit {f : List Nat} {n : Nat} {S : Nat → Prop} (hS : ∀ j, S j → j < n) (hno : ¬ ∃ ψ, Each f S ψ) (hcr : ∀ y, S y → ∃ ψ, Each f (fun j => S j ∧ j ≠ y) ψ) {x : Nat} (hx : S x) : ∃ φ, Each f (fun j => S j ∧ j ≠ x) φ ∧ ∀ z o, S z → (f.getD z 0).testBit o = true → ∃ j, S j ∧ j ≠ x ∧ φ j = o := by
  obtain ⟨φ, hφ⟩ := hcr x hx
  refine ⟨φ, hφ, ?_⟩
  have hin : ∀ k o, Reach f S x φ k o → ∃ j, S j ∧ j ≠ x ∧ φ j = o := fun k o hr => by
    by_cases h : ∃ j, S j ∧ j ≠ x ∧ φ j = o
    · exact h
    · exact absurd (augment k φ hφ o hr (fun j h1 h2 h3 => h ⟨j, h1, h2, h3⟩)) hno
  have hall : ∀ z, S z → z = x ∨ ∃ k, Reach f S x φ k (φ z) := by
    intro y hy
    by_cases h : y = x ∨ ∃ k, Reach f S x φ k (φ y)
    · exact h
    exfalso
    obtain ⟨ψ, hψ⟩ := hcr y hy
    have hyx : y ≠ x := fun e => h (.inl e)
    -- those that are come to
    obtain ⟨L, hn, hT⟩ : ∃ L : List Nat, L.Nodup ∧ ∀ z, z ∈ L ↔ S z ∧ (z = x ∨ ∃ k, Reach f S x φ k (φ z)) := by
      classical
      refine ⟨(List.range n).filter (fun z => decide (S z ∧ (z = x ∨ ∃ k, Reach f S x φ k (φ z)))), List.nodup_range.filter _, fun z => ?_⟩
      rw [List.mem_filter, List.mem_range, decide_eq_true_eq]
      exact ⟨fun a => a.2, fun a => ⟨hS z a.1, a⟩⟩
    have hxL : x ∈ L := (hT x).2 ⟨hx, .inl rfl⟩
    have hne : ∀ z, z ∈ L → z ≠ y := fun z hz e => h (e ▸ ((hT z).1 hz).2)
    have h1 : (L.map ψ).Nodup := nodup_map_inj (fun a ha b hb e => hψ.2 a b ⟨((hT a).1 ha).1, hne a ha⟩ ⟨((hT b).1 hb).1, hne b hb⟩ e) hn
    have h2 : ∀ o, o ∈ L.map ψ → o ∈ (L.erase x).map φ := by
      intro o ho
      obtain ⟨z, hz, rfl⟩ := List.mem_map.1 ho
      have hz' := (hT z).1 hz
      have hb := hψ.1 z ⟨hz'.1, hne z hz⟩
      have hr : ∃ k, Reach f S x φ k (ψ z) := by
        rcases hz'.2 with rfl | ⟨k, hk⟩
        · exact ⟨0, hb⟩
        · by_cases e : z = x
          · exact ⟨0, e ▸ hb⟩
          · exact ⟨k + 1, z, hz'.1, e, hk, hb⟩
      obtain ⟨k, hk⟩ := hr
      obtain ⟨j, j1, j2, j3⟩ := hin k _ hk
      refine List.mem_map.2 ⟨j, ?_, j3⟩
      refine (List.mem_erase_of_ne j2).2 ((hT j).2 ⟨j1, .inr ⟨k, ?_⟩⟩)
      rw [j3]; exact hk
    have h3 := h1.length_le_of_subset (l₂ := (L.erase x).map φ) h2
    rw [List.length_map, List.length_map, List.length_erase_of_mem hxL] at h3
    have := List.length_pos_of_mem hxL
    omega
  intro z o hz hb
  rcases hall z hz with rfl | ⟨k, hk⟩
  · exact hin 0 o hb
  · by_cases e : z = x
    · exact hin 0 o (e ▸ hb)
    · exact hin (k + 1) o ⟨z, hz, e, hk, hb⟩

/-! ### How many fit them -/
def orP (f : List Nat) (s : Nat) : Nat → Nat
  | 0 => 0
  | j + 1 => orP f s j ||| if s.testBit j then f.getD j 0 else 0
theorem orP_bit (f : List Nat) (s : Nat) (o : Nat) : ∀ n, (orP f s n).testBit o = true ↔ ∃ j, j < n ∧ s.testBit j = true ∧ (f.getD j 0).testBit o = true
  | 0 => by
    unfold orP
    rw [Nat.zero_testBit]
    constructor
    · intro h; cases h
    · rintro ⟨j, h, _⟩; omega
  | n + 1 => by
    unfold orP
    rw [Nat.testBit_or, Bool.or_eq_true, orP_bit f s o n]
    constructor
    · rintro (⟨j, a, b⟩ | h)
      · exact ⟨j, by omega, b⟩
      · split at h
        · rename_i h2; exact ⟨n, by omega, h2, h⟩
        · simp at h
    · rintro ⟨j, a, b, c⟩
      rcases Nat.lt_or_ge j n with h | h
      · exact .inl ⟨j, h, b, c⟩
      · have : j = n := by omega
        subst this
        rw [if_pos b]
        exact .inr c
theorem orP_lt {f : List Nat} (hf : ∀ x ∈ f, x < 64) (s : Nat) : ∀ n, orP f s n < 64
  | 0 => by unfold orP; omega
  | n + 1 => by
    unfold orP
    refine Nat.or_lt_two_pow (n := 6) (orP_lt hf s n) ?_
    split
    · rw [List.getD_eq_getElem?_getD]
      cases h : f[n]? with
      | none => simp
      | some x => exact hf x (List.mem_of_getElem? h)
    · omega
theorem size_filter : ∀ x : Nat, x < 64 → size x = ((List.range 6).filter fun i => x.testBit i).length := by decide +kernel
theorem bits6 {x i : Nat} (hx : x < 64) (h : x.testBit i = true) : i < 6 := by
  rcases Nat.lt_or_ge i 6 with a | a
  · exact a
  · rw [Nat.testBit_lt_two_pow (Nat.lt_of_lt_of_le hx (Nat.pow_le_pow_right (n := 2) (by omega) a))] at h
    cases h
theorem size_drop : ∀ s : Nat, s < 64 → ∀ i : Nat, i < 6 → s.testBit i = true → size (ndiff s (2 ^ i)) + 1 = size s := by decide +kernel
/-- Those that are told fit fewer owners together than they are. -/
theorem clash_fewer {f : List Nat} (h4 : f.length ≤ 4) (h5 : ∀ x ∈ f, ∀ o, x.testBit o = true → o < 5) (hf : ∀ x ∈ f, x < 64) {s : Nat} (hs : s < 2 ^ f.length) (hs1 : 1 ≤ s) (hz : waysN (pick f s) = 0) (hcr : ∀ i, s.testBit i = true → waysN (pick f (ndiff s (2 ^ i))) ≠ 0) : size (orP f s f.length) < size s := by
  have hs64 : s < 64 := by
    have : 2 ^ f.length ≤ 2 ^ 4 := Nat.pow_le_pow_right (by omega) h4
    omega
  obtain ⟨x, hx⟩ : ∃ x, s.testBit x = true := Nat.exists_testBit_of_ne_zero (by omega)
  have hlt : ∀ j, s.testBit j = true → j < f.length := fun j hj => by
    rcases Nat.lt_or_ge j f.length with a | a
    · exact a
    · rw [Nat.testBit_lt_two_pow (Nat.lt_of_lt_of_le hs (Nat.pow_le_pow_right (n := 2) (by omega) a))] at hj
      cases hj
  have hno : ¬ ∃ ψ, Each f (fun j => j < f.length ∧ s.testBit j = true) ψ := fun h => (pick_ways h5).2 h hz
  obtain ⟨φ, h1, h2⟩ := crit (n := f.length) (S := fun j => j < f.length ∧ s.testBit j = true) (fun j h => h.1) hno (fun y hy => by
    obtain ⟨ψ, hψ⟩ := (pick_ways h5).1 (hcr y hy.2)
    have hb : ∀ j, (j < f.length ∧ s.testBit j = true) ∧ j ≠ y → j < f.length ∧ (ndiff s (2 ^ y)).testBit j = true := fun j hj => ⟨hj.1.1, by
      rw [ndiff_bit, hj.1.2, Nat.testBit_two_pow, decide_eq_false (Ne.symm hj.2)]; rfl⟩
    exact ⟨ψ, fun j hj => hψ.1 j (hb j hj), fun a b ha hb' e => hψ.2 a b (hb a ha) (hb b hb') e⟩) (x := x) ⟨hlt x hx, hx⟩
  rw [size_filter _ (orP_lt hf s _), size_filter s hs64]
  have hn6 : f.length ≤ 6 := by omega
  have hxm : x ∈ (List.range 6).filter (fun i => s.testBit i) := List.mem_filter.2 ⟨List.mem_range.2 (by have := hlt x hx; omega), hx⟩
  have h3 := List.Nodup.length_le_of_subset ((List.nodup_range (n := 6)).filter (fun i => (orP f s f.length).testBit i)) (l₂ := (((List.range 6).filter fun i => s.testBit i).erase x).map φ) (fun o ho => by
    obtain ⟨-, ho⟩ := List.mem_filter.1 ho
    obtain ⟨j, a, b, c⟩ := (orP_bit f s o _).1 ho
    obtain ⟨k, ⟨k1, k2⟩, k3, k4⟩ := h2 j o ⟨a, b⟩ c
    exact List.mem_map.2 ⟨k, (List.mem_erase_of_ne k3).2 (List.mem_filter.2 ⟨List.mem_range.2 (by omega), k2⟩), k4⟩)
  rw [List.length_map, List.length_erase_of_mem hxm] at h3
  have := List.length_pos_of_mem hxm
  omega
theorem fits_five {w : Wa} (hw : w.OK) : ∀ x ∈ w.fits, ∀ o, x.testBit o = true → o < 5 := by
  intro x hx o ho
  unfold Wa.fits at hx
  obtain ⟨f, -, rfl⟩ := List.mem_map.1 hx
  rw [fitN_bit] at ho
  rcases Nat.lt_or_ge o w.os.length with a | a
  · have := hw.no; omega
  · rw [fitP_no a] at ho; cases ho
/-- All of what Clash tells, of watches that have no truth. -/
theorem clash_all {w : Wa} (hw : w.OK) (hz : waysN w.fits = 0) : ∃ s, clashF w.fits = some s ∧ s < 2 ^ w.fits.length ∧ 1 ≤ s ∧ waysN (pick w.fits s) = 0 ∧ (∀ i, i < w.fits.length → s.testBit i = true → waysN (pick w.fits (ndiff s (2 ^ i))) ≠ 0) ∧ size (orP w.fits s w.fits.length) < size s ∧ ∀ y, y < 2 ^ w.fits.length → waysN (pick w.fits y) = 0 → size s < size y ∨ (size s = size y ∧ s ≤ y) := by
  obtain ⟨f1, f2⟩ := fits_small hw
  obtain ⟨s, a, b, c, d, e⟩ := clash_law f1 hz
  have h16 : 2 ^ w.fits.length ≤ 2 ^ 4 := Nat.pow_le_pow_right (by omega) f1
  have hcr : ∀ i, s.testBit i = true → waysN (pick w.fits (ndiff s (2 ^ i))) ≠ 0 := fun i hi h0 => by
    have hi6 := bits6 (show s < 64 by omega) hi
    have h1 := size_drop s (by omega) i hi6 hi
    have h2 := ndiff_le s (2 ^ i)
    have := e _ (by omega) h0
    omega
  exact ⟨s, a, b, c, d, fun i _ h => hcr i h, clash_fewer f1 (fits_five hw) f2 b c d hcr, e⟩
end Go.Proofs.YtnmmhkkmejbckaaGreatDoor
