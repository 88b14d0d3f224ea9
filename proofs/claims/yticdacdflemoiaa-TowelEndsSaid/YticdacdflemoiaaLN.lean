/- Proved here: laws that the statements need (TwY1, TwX7). No conditions but those that each law states. -/
import Derived.Test.YticdacdflemoiaaLL

set_option linter.unusedSimpArgs false
set_option linter.unusedVariables false

/- What the truths of towels are: plain laws. -/
namespace Go.Proofs.Yticdacdflemoiaa
open Go Go.Ab

theorem mem_rangeI {lo hi n : Int} : n ∈ rangeI lo hi ↔ lo ≤ n ∧ n ≤ hi := by
  unfold rangeI
  rw [List.mem_map]
  constructor
  · rintro ⟨j, hj, rfl⟩
    have := List.mem_range.1 hj
    omega
  · rintro ⟨h1, h2⟩
    exact ⟨(n - lo).toNat, List.mem_range.2 (by omega), by omega⟩

theorem mem_tupsK {t : Tw} : ∀ {k : Nat} {l : List Int}, k ≤ t.bs.length → (l ∈ tupsK t (-1) 0 0 k ↔ l.length = k ∧ ∀ i x, i < k → t.bs[i]? = some x → (words x).1 ≤ l.getD i 0 ∧ l.getD i 0 ≤ (words x).2)
  | 0, l, _ => by simp [tupsK]
  | k + 1, l, h => by
    have hb : t.bs[k]? = some (t.bs[k]'(by omega)) := List.getElem?_eq_getElem _
    rw [tupsK_succ hb, List.mem_flatMap]
    constructor
    · rintro ⟨m, hm, h2⟩
      obtain ⟨n, hn, rfl⟩ := List.mem_map.1 h2
      obtain ⟨h3, h4⟩ := (mem_tupsK (by omega)).1 hm
      rw [canL_none, mem_rangeI] at hn
      refine ⟨by simp [h3], fun i x hi hx => ?_⟩
      rcases Nat.lt_succ_iff_lt_or_eq.1 hi with hi | hi
      · have := h4 i x hi hx
        rw [List.getD_eq_getElem?_getD, List.getElem?_append_left (by omega), ← List.getD_eq_getElem?_getD]
        exact this
      · subst hi
        rw [hb] at hx
        cases hx
        rw [List.getD_eq_getElem?_getD, List.getElem?_append_right (by omega), h3, Nat.sub_self]
        exact hn
    · rintro ⟨h1, h2⟩
      refine ⟨l.take k, (mem_tupsK (by omega)).2 ⟨by simp; omega, fun i x hi hx => ?_⟩, List.mem_map.2 ⟨l.getD k 0, ?_, ?_⟩⟩
      · have := h2 i x (by omega) hx
        rw [List.getD_eq_getElem?_getD] at this ⊢
        rwa [List.getElem?_take_of_lt hi]
      · rw [canL_none, mem_rangeI]
        exact h2 k _ (by omega) hb
      · rw [List.getD_eq_getElem?_getD, List.getElem?_eq_getElem (by omega), Option.getD_some, List.take_append_getElem]
        exact List.take_of_length_le (by omega)

theorem tupsK_nodup {t : Tw} : ∀ {k : Nat}, k ≤ t.bs.length → (tupsK t (-1) 0 0 k).Nodup
  | 0, _ => by simp [tupsK]
  | k + 1, h => by
    have hb : t.bs[k]? = some (t.bs[k]'(by omega)) := List.getElem?_eq_getElem _
    rw [tupsK_succ hb]
    have ih := tupsK_nodup (t := t) (k := k) (by omega)
    have hl : ∀ l ∈ tupsK t (-1) 0 0 k, l.length = k := fun l hl => ((mem_tupsK (by omega)).1 hl).1
    generalize tupsK t (-1) 0 0 k = L at *
    have hc : (canL (t.bs[k]'(by omega)) k (-1) 0 0).Nodup := canL_nodup
    generalize canL (t.bs[k]'(by omega)) k (-1) 0 0 = C at *
    clear hb
    rw [List.flatMap_def]
    unfold List.Nodup
    rw [List.pairwise_flatten]
    constructor
    · intro m hm
      obtain ⟨l, hl', rfl⟩ := List.mem_map.1 hm
      rw [List.pairwise_map]
      exact hc.imp fun h1 h2 => h1 (by simpa using h2)
    · rw [List.pairwise_map]
      refine List.Pairwise.imp_of_mem ?_ ih
      intro l l' m1 m2 hne x hx y hy e
      obtain ⟨n, _, rfl⟩ := List.mem_map.1 hx
      obtain ⟨n', _, rfl⟩ := List.mem_map.1 hy
      have := (List.append_inj e (by rw [hl l m1, hl l' m2])).1
      exact hne this

structure Truth (t : Tw) (a b : Nat) (l : List Int) : Prop where
  len : l.length = t.bs.length
  word : ∀ i x, t.bs[i]? = some x → (words x).1 ≤ l.getD i 0 ∧ l.getD i 0 ≤ (words x).2
  hut : ∀ i s, t.hs[i]? = some s → a.testBit i = true → s.1 ≤ sumSel (fun x => x.hut == (i : Int)) t.bs l ∧ sumSel (fun x => x.hut == (i : Int)) t.bs l ≤ s.2
  half : ∀ i s, t.vs[i]? = some s → b.testBit i = true → s.1 ≤ sumSel (fun x => x.half == (i : Int)) t.bs l ∧ sumSel (fun x => x.half == (i : Int)) t.bs l ≤ s.2

theorem docT_nodup {t : Tw} (ht : t.OK) (a b : Nat) : (docT t a b).Nodup := by
  rw [docT_eq ht]
  exact (tupsK_nodup (Nat.le_refl _)).sublist List.filter_sublist

theorem allIx_iff {f : Nat → Int × Int → Bool} {l : List (Int × Int)} : allIx f l = true ↔ ∀ i s, l[i]? = some s → f i s = true := by
  unfold allIx
  rw [List.all_eq_true]
  constructor
  · intro h i s hs
    exact h (s, i) (List.mem_zipIdx_iff_getElem?.2 hs)
  · rintro h ⟨s, i⟩ hx
    exact h i s (List.mem_zipIdx_iff_getElem?.1 hx)

theorem mem_docT {t : Tw} (ht : t.OK) {a b : Nat} {l : List Int} : l ∈ docT t a b ↔ Truth t a b l := by
  rw [docT_eq ht]
  unfold truthsC
  rw [List.mem_filter, mem_tupsK (Nat.le_refl _), ← right_eq ht]
  unfold rightL
  rw [Bool.and_eq_true, allIx_iff, allIx_iff]
  constructor
  · rintro ⟨⟨h1, h2⟩, h3, h4⟩
    refine ⟨h1, fun i x hx => h2 i x (List.getElem?_eq_some_iff.1 hx).1 hx, fun i s hs hb => ?_, fun i s hs hb => ?_⟩
    · have := h3 i s hs
      simpa [rightH, hb, wI] using this
    · have := h4 i s hs
      simpa [rightV, hb, wI] using this
  · intro h
    refine ⟨⟨h.len, fun i x _ hx => h.word i x hx⟩, fun i s hs => ?_, fun i s hs => ?_⟩
    · have := h.hut i s hs
      cases hb : a.testBit i
      · simp [rightH, hb]
      · simpa [rightH, hb, wI] using this hb
    · have := h.half i s hs
      cases hb : b.testBit i
      · simp [rightV, hb]
      · simpa [rightV, hb, wI] using this hb

def fullT (t : Tw) (l : List Int) : Prop := Truth t (2 ^ t.hs.length - 1) (2 ^ t.vs.length - 1) l

theorem mem_docA {t : Tw} (ht : t.OK) {l : List Int} : l ∈ docA t ↔ fullT t l := mem_docT ht
theorem docA_nodup {t : Tw} (ht : t.OK) : (docA t).Nodup := docT_nodup ht _ _

theorem Truth.hutF {t : Tw} {l : List Int} (h : fullT t l) (i : Nat) (s : Int × Int) (hs : t.hs[i]? = some s) : s.1 ≤ sumSel (fun x => x.hut == (i : Int)) t.bs l ∧ sumSel (fun x => x.hut == (i : Int)) t.bs l ≤ s.2 :=
  h.hut i s hs (by rw [Nat.testBit_two_pow_sub_one]; exact decide_eq_true (List.getElem?_eq_some_iff.1 hs).1)
theorem Truth.halfF {t : Tw} {l : List Int} (h : fullT t l) (i : Nat) (s : Int × Int) (hs : t.vs[i]? = some s) : s.1 ≤ sumSel (fun x => x.half == (i : Int)) t.bs l ∧ sumSel (fun x => x.half == (i : Int)) t.bs l ≤ s.2 :=
  h.half i s hs (by rw [Nat.testBit_two_pow_sub_one]; exact decide_eq_true (List.getElem?_eq_some_iff.1 hs).1)

theorem Truth.range {t : Tw} (ht : t.OK) {a b : Nat} {l : List Int} (h : Truth t a b l) : ∀ x ∈ l, 0 ≤ x ∧ x ≤ 4 := by
  intro x hx
  obtain ⟨i, hi, e⟩ := List.getElem_of_mem hx
  have hl := h.len
  have hb : t.bs[i]? = some (t.bs[i]'(by omega)) := List.getElem?_eq_getElem _
  have h1 := h.word i _ hb
  have h2 := words_bound t ht (List.mem_of_getElem? hb)
  rw [List.getD_eq_getElem?_getD, List.getElem?_eq_getElem hi, Option.getD_some, e] at h1
  omega
end Go.Proofs.Yticdacdflemoiaa

/- Towels of which some counts alone are known: plain laws; the best of pairs. -/
namespace Go.Proofs.Yticdacdflemoiaa
open Go Go.Ab

/-- The first counts are done. -/
def openL (set : Nat) (l : List (Int × Int)) (k : Nat) : List (Int × Int) := l.mapIdx fun i s => if i < k ∧ set.testBit i = false then (0, 24) else s
def openT (t : Tw) (a b : Nat) : Tw := { t with hs := openL a t.hs t.hs.length, vs := openL b t.vs t.vs.length }

theorem openL_len (set : Nat) (l : List (Int × Int)) (k : Nat) : (openL set l k).length = l.length := by simp [openL]
theorem openL_zero (set : Nat) (l : List (Int × Int)) : openL set l 0 = l := by
  unfold openL
  apply List.ext_getElem?
  intro i
  rw [List.getElem?_mapIdx]
  simp
theorem openL_get {set : Nat} {l : List (Int × Int)} {k i : Nat} {s : Int × Int} (h : l[i]? = some s) : (openL set l k)[i]? = some (if i < k ∧ set.testBit i = false then (0, 24) else s) := by
  unfold openL
  rw [List.getElem?_mapIdx, h]
  rfl
theorem openL_succ {set : Nat} {l : List (Int × Int)} {k : Nat} (hk : k < l.length) : openL set l (k + 1) = if set.testBit k = false then (openL set l k).set k (0, 24) else openL set l k := by
  apply List.ext_getElem?
  intro i
  by_cases hi : i < l.length
  · rw [openL_get (List.getElem?_eq_getElem hi)]
    by_cases hb : set.testBit k = false
    · rw [if_pos hb]
      by_cases hik : i = k
      · subst hik
        rw [List.getElem?_set_self (by rw [openL_len]; exact hk), if_pos ⟨by omega, hb⟩]
      · rw [List.getElem?_set_ne (by omega), openL_get (List.getElem?_eq_getElem hi)]
        have : (i < k + 1) = (i < k) := by apply propext; omega
        simp only [this]
    · rw [if_neg hb, openL_get (List.getElem?_eq_getElem hi)]
      by_cases hik : i = k
      · subst hik
        rw [if_neg (fun h => hb h.2), if_neg (fun h => hb h.2)]
      · have : (i < k + 1) = (i < k) := by apply propext; omega
        simp only [this]
  · rw [List.getElem?_eq_none (by rw [openL_len]; omega), List.getElem?_eq_none]
    split
    · rw [List.length_set, openL_len]; omega
    · rw [openL_len]; omega

theorem openL_mem {set : Nat} {l : List (Int × Int)} {k : Nat} {s : Int × Int} (h : s ∈ openL set l k) : s ∈ l ∨ s = (0, 24) := by
  obtain ⟨i, hi⟩ := List.getElem?_of_mem h
  have hlt := (List.getElem?_eq_some_iff.1 hi).1
  rw [openL_len] at hlt
  rw [openL_get (List.getElem?_eq_getElem hlt)] at hi
  split at hi
  · exact .inr (by simpa using hi.symm)
  · exact .inl (by have := List.getElem_mem hlt; simp at hi; rwa [hi] at this)

theorem openT_OK {t : Tw} (ht : t.OK) (a b : Nat) : (openT t a b).OK := by
  refine ⟨ht.nb, by simpa [openT, openL_len] using ht.nh, by simpa [openT, openL_len] using ht.nv, ?_, ?_, ?_, ht.ne⟩
  · intro s hs
    rcases openL_mem hs with h | h
    · exact ht.hs s h
    · subst h; simp
  · intro s hs
    rcases openL_mem hs with h | h
    · exact ht.vs s h
    · subst h; simp
  · intro x hx
    have := ht.bs x hx
    simpa [openT, openL_len] using this

theorem openT_truth {t : Tw} (ht : t.OK) (a b : Nat) (l : List Int) : fullT (openT t a b) l ↔ Truth t a b l := by
  have sum24 : ∀ (p : B → Bool), (∀ x ∈ l, 0 ≤ x ∧ x ≤ 4) → l.length = t.bs.length → 0 ≤ sumSel p t.bs l ∧ sumSel p t.bs l ≤ 24 := fun p h1 h2 => by
    have := sumSel_bound p t.bs l h1
    have := ht.nb
    omega
  constructor
  · intro h
    have hr := Truth.range (openT_OK ht a b) h
    refine ⟨h.len, h.word, fun i s hs hb => ?_, fun i s hs hb => ?_⟩
    · have h1 := Truth.hutF h i (if i < t.hs.length ∧ a.testBit i = false then (0, 24) else s) (openL_get hs)
      rw [if_neg (by rw [hb]; simp)] at h1
      exact h1
    · have h1 := Truth.halfF h i (if i < t.vs.length ∧ b.testBit i = false then (0, 24) else s) (openL_get hs)
      rw [if_neg (by rw [hb]; simp)] at h1
      exact h1
  · intro h
    have hr := Truth.range ht h
    refine ⟨h.len, h.word, fun i s hs _ => ?_, fun i s hs _ => ?_⟩
    · have hlt := (List.getElem?_eq_some_iff.1 hs).1
      simp only [openT, openL_len] at hlt
      have e := openL_get (set := a) (k := t.hs.length) (List.getElem?_eq_getElem hlt)
      have e2 : (openT t a b).hs = openL a t.hs t.hs.length := rfl
      rw [e2, e] at hs
      have hs := (Option.some.inj hs).symm
      subst hs
      show _ ≤ sumSel _ t.bs l ∧ sumSel _ t.bs l ≤ _
      split
      · exact sum24 _ hr h.len
      · rename_i hn
        exact h.hut i _ (List.getElem?_eq_getElem hlt) (by simpa [hlt] using hn)
    · have hlt := (List.getElem?_eq_some_iff.1 hs).1
      simp only [openT, openL_len] at hlt
      have e := openL_get (set := b) (k := t.vs.length) (List.getElem?_eq_getElem hlt)
      have e2 : (openT t a b).vs = openL b t.vs t.vs.length := rfl
      rw [e2, e] at hs
      have hs := (Option.some.inj hs).symm
      subst hs
      show _ ≤ sumSel _ t.bs l ∧ sumSel _ t.bs l ≤ _
      split
      · exact sum24 _ hr h.len
      · rename_i hn
        exact h.half i _ (List.getElem?_eq_getElem hlt) (by simpa [hlt] using hn)

theorem openT_count {t : Tw} (ht : t.OK) (p : Nat × Nat) : ((specCount (openT t p.1 p.2)).1 == 0) = (clashG t p).2 := by
  have hK := openT_OK ht p.1 p.2
  have hc : specCount (openT t p.1 p.2) = docCount (openT t p.1 p.2) := Count_eq _
  have hd : (docCount (openT t p.1 p.2)).1 = (docA (openT t p.1 p.2)).length := by simp only [docCount, (Tw.ok_iff _).2 hK]; rfl
  rw [hc, hd, clashG_ok ht]
  rw [Bool.eq_iff_iff, beq_iff_eq, beq_iff_eq]
  have key : docA (openT t p.1 p.2) = [] ↔ docT t p.1 p.2 = [] := by
    rw [List.eq_nil_iff_forall_not_mem, List.eq_nil_iff_forall_not_mem]
    simp only [mem_docA hK, mem_docT ht, openT_truth ht]
  constructor
  · intro h
    rw [key.1 (List.eq_nil_of_length_eq_zero (by omega))]; rfl
  · intro h
    rw [key.2 (List.eq_nil_of_length_eq_zero (by omega))]; rfl

/-! ### The best of pairs -/
theorem pairsL_range (a b : Nat) : pairsL a b = (List.range (a * b)).map fun k => (k / b, k % b) := by
  induction a with
  | zero => simp [pairsL]
  | succ a ih =>
    rw [pairsL_succ, ih, Nat.succ_mul, List.range_add, List.map_append, List.map_map]
    congr 1
    refine List.map_congr_left fun y hy => ?_
    have hy := List.mem_range.1 hy
    have hb : 0 < b := by omega
    simp only [Function.comp_apply]
    rw [Nat.add_comm (a * b) y, Nat.add_mul_div_right _ _ hb, Nat.add_mul_mod_self_right, Nat.div_eq_of_lt hy, Nat.mod_eq_of_lt hy]
    simp

theorem bestL_map {α β : Type} (g : β → Int × Bool) (f : α → β) (l : List α) : bestL g (l.map f) = (bestL (fun x => g (f x)) l).map fun p => (f p.1, p.2) := by
  unfold bestL
  have key : ∀ (l : List α) (acc : Option (α × Int)), (l.map f).foldl (bestStep g) (acc.map fun p => (f p.1, p.2)) = (l.foldl (bestStep fun x => g (f x)) acc).map fun p => (f p.1, p.2) := by
    intro l
    induction l with
    | nil => intro acc; rfl
    | cons x l ih =>
      intro acc
      simp only [List.map_cons, List.foldl_cons]
      rw [← ih]
      congr 1
      unfold bestStep
      cases acc with
      | none => simp only [Option.map_none]; split <;> rfl
      | some p =>
        obtain ⟨p, c⟩ := p
        by_cases h1 : (g (f x)).2 = true
        · by_cases h2 : (g (f x)).1 < c
          · simp [h1, h2]
          · simp [h1, h2]
        · simp [h1]
  exact key l none

/-- The best of the pairs below two numbers. -/
def BestP (g : Nat × Nat → Int × Bool) (a b : Nat) : Option ((Nat × Nat) × Int) → Prop
  | none => ∀ x y, x < a → y < b → (g (x, y)).2 = false
  | some (p, c) => p.1 < a ∧ p.2 < b ∧ (g p).2 = true ∧ c = (g p).1 ∧ ∀ x y, x < a → y < b → (g (x, y)).2 = true → c < (g (x, y)).1 ∨ (c = (g (x, y)).1 ∧ (p.1 < x ∨ (p.1 = x ∧ p.2 ≤ y)))

theorem bestP (g : Nat × Nat → Int × Bool) (a b : Nat) : BestP g a b (bestL g (pairsL a b)) := by
  rw [pairsL_range, bestL_map]
  have h := bestAt (fun k => g (k / b, k % b)) (a * b)
  have hk : ∀ x y, x < a → y < b → x * b + y < a * b ∧ (x * b + y) / b = x ∧ (x * b + y) % b = y := fun x y hx hy => by
    have hb : 0 < b := by omega
    refine ⟨?_, ?_, ?_⟩
    · have : (x + 1) * b ≤ a * b := Nat.mul_le_mul_right b hx
      rw [Nat.succ_mul] at this
      omega
    · rw [Nat.add_comm, Nat.add_mul_div_right _ _ hb, Nat.div_eq_of_lt hy]; simp
    · rw [Nat.add_comm, Nat.add_mul_mod_self_right, Nat.mod_eq_of_lt hy]
  cases hbest : bestL (fun k => g (k / b, k % b)) (List.range (a * b)) with
  | none =>
    rw [hbest] at h
    intro x y hx hy
    obtain ⟨h1, h2, h3⟩ := hk x y hx hy
    have := h _ h1
    simp only [h2, h3] at this
    exact this
  | some q =>
    obtain ⟨k, c⟩ := q
    rw [hbest] at h
    obtain ⟨h1, h2, h3, h4⟩ := h
    have hb : 0 < b := by
      rcases Nat.eq_zero_or_pos b with h | h
      · subst h; simp at h1
      · exact h
    refine ⟨?_, Nat.mod_lt _ hb, h2, h3, fun x y hx hy ho => ?_⟩
    · exact Nat.div_lt_of_lt_mul (by rw [Nat.mul_comm]; exact h1)
    · obtain ⟨q1, q2, q3⟩ := hk x y hx hy
      have := h4 _ q1 (by simp only [q2, q3]; exact ho)
      simp only [q2, q3] at this
      rcases this with h | ⟨h, h'⟩
      · exact .inl h
      · refine .inr ⟨h, ?_⟩
        simp only
        have e := Nat.div_add_mod k b
        have hm := Nat.mod_lt k hb
        generalize k / b = kd at *
        generalize k % b = km at *
        rw [Nat.mul_comm b kd] at e
        by_cases hlt : kd < x
        · exact .inl hlt
        · right
          have : x ≤ kd := by omega
          have h5 : x * b ≤ kd * b := Nat.mul_le_mul_right b this
          by_cases hx2 : x = kd
          · subst hx2; omega
          · have : (x + 1) * b ≤ kd * b := Nat.mul_le_mul_right b (by omega)
            rw [Nat.succ_mul] at this
            omega

theorem clash_none {t : Tw} (ht : t.OK) : (clashG t (0, 0)).2 = false := by
  have hne : ∀ k, k ≤ t.bs.length → tupsK t (-1) 0 0 k ≠ [] := by
    intro k
    induction k with
    | zero => intro _; simp [tupsK]
    | succ k ih =>
      intro h e
      have hb : t.bs[k]? = some (t.bs[k]'(by omega)) := List.getElem?_eq_getElem _
      rw [tupsK_succ hb, List.flatMap_eq_nil_iff] at e
      obtain ⟨l, hl⟩ := List.exists_mem_of_ne_nil _ (ih (by omega))
      have h1 := e l hl
      rw [List.map_eq_nil_iff, canL_none] at h1
      have h2 := words_bound t ht (List.mem_of_getElem? hb)
      have : (words (t.bs[k]'(by omega))).1 ∈ rangeI (words (t.bs[k]'(by omega))).1 (words (t.bs[k]'(by omega))).2 := mem_rangeI.2 (by omega)
      rw [h1] at this
      simp at this
  have hc : cnts t 0 0 = [] := by unfold cnts cntsOf; simp
  unfold clashG truthsC
  rw [hc]
  simp only [List.all_nil]
  rw [List.filter_eq_self.2 (by simp)]
  have := hne _ (Nat.le_refl _)
  cases h : tupsK t (-1) 0 0 t.bs.length
  · exact absurd h this
  · rfl
end Go.Proofs.Yticdacdflemoiaa
