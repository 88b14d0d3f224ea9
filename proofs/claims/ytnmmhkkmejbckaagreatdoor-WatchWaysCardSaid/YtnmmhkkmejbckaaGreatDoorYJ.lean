/- Proved here: laws that the statements need (WzW1). No conditions but those that each law states. -/
import Derived.Test.YtnmmhkkmejbckaaGreatDoorYH

set_option linter.unusedSimpArgs false
set_option linter.unusedVariables false

/- Plain laws of truths: how many there are, whose each find is. -/
namespace Go.Proofs.YtnmmhkkmejbckaaGreatDoor
open Go Go.Ab

theorem who_bit (p i : Nat) : ∀ ts : List (List Nat), (whoN p ts).testBit i = true ↔ ∃ l ∈ ts, l[p]? = some i
  | [] => by simp [whoN]
  | l :: ts => by
    rw [show l :: ts = [l] ++ ts from rfl, whoN_append, Nat.testBit_or, Bool.or_eq_true, who_bit p i ts]
    have e : (whoN p [l]).testBit i = true ↔ l[p]? = some i := by
      unfold whoN
      rw [List.foldl_cons, List.foldl_nil, Nat.zero_or]
      cases l[p]? with
      | none => simp
      | some x =>
        simp only [Nat.testBit_two_pow, decide_eq_true_eq, Option.some.injEq]
    rw [e]
    constructor
    · rintro (h | ⟨l', h1, h2⟩)
      · exact ⟨l, by simp, h⟩
      · exact ⟨l', by simp [h1], h2⟩
    · rintro ⟨l', h1, h2⟩
      rcases List.mem_append.1 h1 with h1 | h1
      · rw [List.mem_singleton] at h1
        exact .inl (h1 ▸ h2)
      · exact .inr ⟨l', h1, h2⟩
theorem whose_get (f : List Nat) {p : Nat} (hp : p < 4) : (whoseL f).getD p 0 = whoN p (truths f) := by
  unfold whoseL whoL
  rw [List.getD_eq_getElem?_getD, List.getElem?_map, List.getElem?_range hp]
  simp
theorem whose_bit (f : List Nat) {p : Nat} (hp : p < 4) (i : Nat) : ((whoseL f).getD p 0).testBit i = true ↔ ∃ l ∈ truths f, l[p]? = some i := by
  rw [whose_get f hp, who_bit]
theorem nodup_map_inj {α β : Type} {f : α → β} : ∀ {l : List α}, (∀ a ∈ l, ∀ b ∈ l, f a = f b → a = b) → l.Nodup → (l.map f).Nodup
  | [], _, _ => by simp
  | a :: l, h, hn => by
    rw [List.nodup_cons] at hn
    rw [List.map_cons, List.nodup_cons]
    refine ⟨fun hm => ?_, nodup_map_inj (fun x hx y hy e => h x (by simp [hx]) y (by simp [hy]) e) hn.2⟩
    obtain ⟨b, hb, e⟩ := List.mem_map.1 hm
    have := h b (by simp [hb]) a (by simp) e
    exact hn.1 (this ▸ hb)
theorem truT_nodup (fits : List Nat) : ∀ (l : Nat) (has : List Bool), (truT fits l has).Nodup
  | 0, _ => by simp [truT]
  | l + 1, has => by
    unfold truT
    unfold List.Nodup
    rw [List.pairwise_flatMap]
    refine ⟨fun i _ => ?_, ?_⟩
    · split
      · exact List.Pairwise.nil
      · exact nodup_map_inj (fun a _ b _ e => by simpa using e) (truT_nodup fits l _)
    · refine List.Pairwise.imp_of_mem ?_ (List.nodup_range (n := 5))
      intro a b _ _ hab x hx y hy e
      have hx2 : x.head? = some a := by
        split at hx
        · simp at hx
        · obtain ⟨t, _, rfl⟩ := List.mem_map.1 hx; rfl
      have hy2 : y.head? = some b := by
        split at hy
        · simp at hy
        · obtain ⟨t, _, rfl⟩ := List.mem_map.1 hy; rfl
      rw [e, hy2] at hx2
      exact hab (Option.some.inj hx2).symm
theorem truths_nodup (fits : List Nat) : (truths fits).Nodup := truT_nodup _ _ _
/-- There are no more truths where they can be told apart by those of others. -/
theorem ways_le {f f' : List Nat} (g : List Nat → List Nat) (hg : ∀ l ∈ truths f, g l ∈ truths f') (hi : ∀ a ∈ truths f, ∀ b ∈ truths f, g a = g b → a = b) : waysN f ≤ waysN f' := by
  unfold waysN
  have := (nodup_map_inj hi (truths_nodup f)).length_le_of_subset (l₂ := truths f') (fun x hx => by
    obtain ⟨a, ha, rfl⟩ := List.mem_map.1 hx
    exact hg a ha)
  rwa [List.length_map] at this
theorem ways_pos {f : List Nat} : waysN f ≠ 0 ↔ ∃ l, l ∈ truths f := by
  unfold waysN
  constructor
  · intro h
    cases ht : truths f with
    | nil => rw [ht] at h; exact absurd rfl h
    | cons l _ => exact ⟨l, by simp⟩
  · rintro ⟨l, hl⟩ h
    rw [List.eq_nil_of_length_eq_zero h] at hl
    cases hl
theorem truths_at {f : List Nat} {l : List Nat} (h : l ∈ truths f) {p : Nat} (hp : p < f.length) : ∃ i, l[p]? = some i ∧ (f.getD p 0).testBit i = true ∧ i < 5 := by
  obtain ⟨a, -, c⟩ := truths_mem.1 h
  have e : l[p]? = some (l[p]'(by omega)) := List.getElem?_eq_getElem (by omega)
  exact ⟨_, e, c p _ e⟩
/-- So many elements with values below a number. -/
def cntB {α : Type} (T : List α) (g : α → Nat) (k : Nat) : Nat := (T.filter fun l => decide (g l < k)).length
theorem cntB_zero {α : Type} (T : List α) (g : α → Nat) : cntB T g 0 = 0 := by simp [cntB]
theorem cntB_succ {α : Type} (T : List α) (g : α → Nat) (k : Nat) : cntB T g (k + 1) = cntB T g k + (T.filter fun l => decide (g l = k)).length := by
  unfold cntB
  induction T with
  | nil => rfl
  | cons a T ih =>
    rw [List.filter_cons, List.filter_cons, List.filter_cons]
    by_cases h1 : g a < k
    · have h2 : g a < k + 1 := by omega
      have h3 : ¬ g a = k := by omega
      simp only [h1, h2, h3, decide_true, decide_false, if_true, Bool.false_eq_true, if_false, List.length_cons]
      omega
    · by_cases h3 : g a = k
      · have h2 : g a < k + 1 := by omega
        simp only [h1, h2, h3, decide_true, decide_false, if_true, Bool.false_eq_true, if_false, List.length_cons]
        simp only [Nat.lt_irrefl, decide_false, Bool.false_eq_true, if_false, Nat.lt_succ_self, decide_true, if_true, List.length_cons]
        omega
      · have h2 : ¬ g a < k + 1 := by omega
        simp only [h1, h2, h3, decide_false, Bool.false_eq_true, if_false]
        exact ih
theorem cntB_all {α : Type} {T : List α} {g : α → Nat} {k : Nat} (h : ∀ a ∈ T, g a < k) : cntB T g k = T.length := by
  unfold cntB
  rw [List.filter_eq_self.2 fun a ha => by simpa using h a ha]
/-- Whose a find is, in a truth. -/
def atN (i : Nat) (l : List Nat) : Nat := l.getD i 9
/-- With one find that can be one owner's alone. -/
def onlyN (f : List Nat) (i o : Nat) : List Nat := f.set i (if (f.getD i 0).testBit o then 2 ^ o else 0)
theorem only_ways (f : List Nat) {i : Nat} (hi : i < f.length) (o : Nat) : waysN (onlyN f i o) = ((truths f).filter fun l => decide (atN i l = o)).length := by
  unfold waysN
  refine List.Perm.length_eq ((List.perm_ext_iff_of_nodup (truths_nodup _) ((truths_nodup f).filter _)).2 fun l => ?_)
  rw [List.mem_filter, decide_eq_true_eq, truths_mem, truths_mem]
  have hl : (onlyN f i o).length = f.length := by unfold onlyN; simp
  have hg : ∀ p, (onlyN f i o).getD p 0 = if p = i then (if (f.getD i 0).testBit o then 2 ^ o else 0) else f.getD p 0 := fun p => by
    unfold onlyN
    rw [List.getD_eq_getElem?_getD, List.getElem?_set]
    by_cases e : i = p
    · subst e; rw [if_pos rfl, if_pos hi, if_pos rfl]; rfl
    · rw [if_neg e, if_neg (Ne.symm e), ← List.getD_eq_getElem?_getD]
  rw [hl]
  unfold atN
  constructor
  · rintro ⟨a, b, c⟩
    have e : l[i]? = some (l[i]'(by omega)) := List.getElem?_eq_getElem (by omega)
    have c1 := c i _ e
    rw [hg, if_pos rfl] at c1
    have ho : l[i]'(by omega) = o ∧ (f.getD i 0).testBit o = true := by
      have h1 := c1.1
      split at h1
      · rename_i h2
        rw [Nat.testBit_two_pow, decide_eq_true_eq] at h1
        exact ⟨h1.symm, h2⟩
      · simp at h1
    refine ⟨⟨a, b, fun p x hp => ?_⟩, ?_⟩
    · have c2 := c p x hp
      rw [hg] at c2
      by_cases h : p = i
      · subst h
        rw [e] at hp
        cases hp
        exact ⟨by rw [ho.1]; exact ho.2, c2.2⟩
      · rw [if_neg h] at c2
        exact c2
    · rw [List.getD_eq_getElem?_getD, e]
      exact ho.1
  · rintro ⟨⟨a, b, c⟩, d⟩
    refine ⟨a, b, fun p x hp => ?_⟩
    rw [hg]
    by_cases h : p = i
    · subst h
      rw [if_pos rfl]
      rw [List.getD_eq_getElem?_getD, hp] at d
      have d' : x = o := d
      subst d'
      have := c p x hp
      rw [this.1, if_pos rfl, Nat.testBit_two_pow]
      exact ⟨by simp, this.2⟩
    · rw [if_neg h]
      exact c p x hp
theorem only_pos {f : List Nat} {i : Nat} (hi : i < f.length) (h4 : i < 4) (o : Nat) : waysN (onlyN f i o) ≠ 0 ↔ ((whoseL f).getD i 0).testBit o = true := by
  rw [only_ways f hi, whose_bit f h4]
  constructor
  · intro h
    obtain ⟨l, hl⟩ := List.exists_mem_of_ne_nil ((truths f).filter fun l => decide (atN i l = o)) (fun e => h (by rw [e]; rfl))
    rw [List.mem_filter, decide_eq_true_eq] at hl
    refine ⟨l, hl.1, ?_⟩
    obtain ⟨x, hx, -⟩ := truths_at hl.1 hi
    have := hl.2
    unfold atN at this
    rw [List.getD_eq_getElem?_getD, hx] at this
    rw [hx]
    exact congrArg some this
  · rintro ⟨l, hl, e⟩ h
    have hm : l ∈ (truths f).filter fun l => decide (atN i l = o) := by
      rw [List.mem_filter, decide_eq_true_eq]
      refine ⟨hl, ?_⟩
      unfold atN
      rw [List.getD_eq_getElem?_getD, e]
      rfl
    rw [List.eq_nil_of_length_eq_zero h] at hm
    cases hm
end Go.Proofs.YtnmmhkkmejbckaaGreatDoor
