/- Proved here: laws that the statements need (TwY1, TwX7, TwX8). No conditions but those that each law states. -/
import Derived.Test.YticdacdflemoiaaLM
import Derived.Test.YticdacdflemoiaaFL

set_option linter.unusedSimpArgs false
set_option linter.unusedVariables false

/- What the truths of towels are: plain laws. -/
namespace Go.Proofs.Yticdacdflemoiaa
open Go Go.Ab

theorem mem_rangeI {lo hi n : Int} : n ∈ rangeI lo hi ↔ lo ≤ n ∧ n ≤ hi := by
  unfold rangeI
  rw [List.mem_map]
  constructor
  · rintro ⟨j, hj, rfl⟩
    have := List.mem_range.1 hj
    omega
  · rintro ⟨h1, h2⟩
    exact ⟨(n - lo).toNat, List.mem_range.2 (by omega), by omega⟩

theorem mem_tupsK {t : Tw} : ∀ {k : Nat} {l : List Int}, k ≤ t.bs.length → (l ∈ tupsK t (-1) 0 0 k ↔ l.length = k ∧ ∀ i x, i < k → t.bs[i]? = some x → (words x).1 ≤ l.getD i 0 ∧ l.getD i 0 ≤ (words x).2)
  | 0, l, _ => by simp [tupsK]
  | k + 1, l, h => by
    have hb : t.bs[k]? = some (t.bs[k]'(by omega)) := List.getElem?_eq_getElem _
    rw [tupsK_succ hb, List.mem_flatMap]
    constructor
    · rintro ⟨m, hm, h2⟩
      obtain ⟨n, hn, rfl⟩ := List.mem_map.1 h2
      obtain ⟨h3, h4⟩ := (mem_tupsK (by omega)).1 hm
      rw [canL_none, mem_rangeI] at hn
      refine ⟨by simp [h3], fun i x hi hx => ?_⟩
      rcases Nat.lt_succ_iff_lt_or_eq.1 hi with hi | hi
      · have := h4 i x hi hx
        rw [List.getD_eq_getElem?_getD, List.getElem?_append_left (by omega), ← List.getD_eq_getElem?_getD]
        exact this
      · subst hi
        rw [hb] at hx
        cases hx
        rw [List.getD_eq_getElem?_getD, List.getElem?_append_right (by omega), h3, Nat.sub_self]
        exact hn
    · rintro ⟨h1, h2⟩
      refine ⟨l.take k, (mem_tupsK (by omega)).2 ⟨by simp; omega, fun i x hi hx => ?_⟩, List.mem_map.2 ⟨l.getD k 0, ?_, ?_⟩⟩
      · have := h2 i x (by omega) hx
        rw [List.getD_eq_getElem?_getD] at this ⊢
        rwa [List.getElem?_take_of_lt hi]
      · rw [canL_none, mem_rangeI]
        exact h2 k _ (by omega) hb
      · rw [List.getD_eq_getElem?_getD, List.getElem?_eq_getElem (by omega), Option.getD_some, List.take_append_getElem]
        exact List.take_of_length_le (by omega)

theorem tupsK_nodup {t : Tw} : ∀ {k : Nat}, k ≤ t.bs.length → (tupsK t (-1) 0 0 k).Nodup
  | 0, _ => by simp [tupsK]
  | k + 1, h => by
    have hb : t.bs[k]? = some (t.bs[k]'(by omega)) := List.getElem?_eq_getElem _
    rw [tupsK_succ hb]
    have ih := tupsK_nodup (t := t) (k := k) (by omega)
    have hl : ∀ l ∈ tupsK t (-1) 0 0 k, l.length = k := fun l hl => ((mem_tupsK (by omega)).1 hl).1
    generalize tupsK t (-1) 0 0 k = L at *
    have hc : (canL (t.bs[k]'(by omega)) k (-1) 0 0).Nodup := canL_nodup
    generalize canL (t.bs[k]'(by omega)) k (-1) 0 0 = C at *
    clear hb
    rw [List.flatMap_def]
    unfold List.Nodup
    rw [List.pairwise_flatten]
    constructor
    · intro m hm
      obtain ⟨l, hl', rfl⟩ := List.mem_map.1 hm
      rw [List.pairwise_map]
      exact hc.imp fun h1 h2 => h1 (by simpa using h2)
    · rw [List.pairwise_map]
      refine List.Pairwise.imp_of_mem ?_ ih
      intro l l' m1 m2 hne x hx y hy e
      obtain ⟨n, _, rfl⟩ := List.mem_map.1 hx
      obtain ⟨n', _, rfl⟩ := List.mem_map.1 hy
      have := (List.append_inj e (by rw [hl l m1, hl l' m2])).1
      exact hne this

structure Truth (t : Tw) (a b : Nat) (l : List Int) : Prop where
  len : l.length = t.bs.length
  word : ∀ i x, t.bs[i]? = some x → (words x).1 ≤ l.getD i 0 ∧ l.getD i 0 ≤ (words x).2
  hut : ∀ i s, t.hs[i]? = some s → a.testBit i = true → s.1 ≤ sumSel (fun x => x.hut == (i : Int)) t.bs l ∧ sumSel (fun x => x.hut == (i : Int)) t.bs l ≤ s.2
  half : ∀ i s, t.vs[i]? = some s → b.testBit i = true → s.1 ≤ sumSel (fun x => x.half == (i : Int)) t.bs l ∧ sumSel (fun x => x.half == (i : Int)) t.bs l ≤ s.2

theorem docT_nodup {t : Tw} (ht : t.OK) (a b : Nat) : (docT t a b).Nodup := by
  rw [docT_eq ht]
  exact (tupsK_nodup (Nat.le_refl _)).sublist List.filter_sublist

theorem allIx_iff {f : Nat → Int × Int → Bool} {l : List (Int × Int)} : allIx f l = true ↔ ∀ i s, l[i]? = some s → f i s = true := by
  unfold allIx
  rw [List.all_eq_true]
  constructor
  · intro h i s hs
    exact h (s, i) (List.mem_zipIdx_iff_getElem?.2 hs)
  · rintro h ⟨s, i⟩ hx
    exact h i s (List.mem_zipIdx_iff_getElem?.1 hx)

theorem mem_docT {t : Tw} (ht : t.OK) {a b : Nat} {l : List Int} : l ∈ docT t a b ↔ Truth t a b l := by
  rw [docT_eq ht]
  unfold truthsC
  rw [List.mem_filter, mem_tupsK (Nat.le_refl _), ← right_eq ht]
  unfold rightL
  rw [Bool.and_eq_true, allIx_iff, allIx_iff]
  constructor
  · rintro ⟨⟨h1, h2⟩, h3, h4⟩
    refine ⟨h1, fun i x hx => h2 i x (List.getElem?_eq_some_iff.1 hx).1 hx, fun i s hs hb => ?_, fun i s hs hb => ?_⟩
    · have := h3 i s hs
      simpa [rightH, hb, wI] using this
    · have := h4 i s hs
      simpa [rightV, hb, wI] using this
  · intro h
    refine ⟨⟨h.len, fun i x _ hx => h.word i x hx⟩, fun i s hs => ?_, fun i s hs => ?_⟩
    · have := h.hut i s hs
      cases hb : a.testBit i
      · simp [rightH, hb]
      · simpa [rightH, hb, wI] using this hb
    · have := h.half i s hs
      cases hb : b.testBit i
      · simp [rightV, hb]
      · simpa [rightV, hb, wI] using this hb

def fullT (t : Tw) (l : List Int) : Prop := Truth t (2 ^ t.hs.length - 1) (2 ^ t.vs.length - 1) l

theorem mem_docA {t : Tw} (ht : t.OK) {l : List Int} : l ∈ docA t ↔ fullT t l := mem_docT ht
theorem docA_nodup {t : Tw} (ht : t.OK) : (docA t).Nodup := docT_nodup ht _ _

theorem Truth.hutF {t : Tw} {l : List Int} (h : fullT t l) (i : Nat) (s : Int × Int) (hs : t.hs[i]? = some s) : s.1 ≤ sumSel (fun x => x.hut == (i : Int)) t.bs l ∧ sumSel (fun x => x.hut == (i : Int)) t.bs l ≤ s.2 :=
  h.hut i s hs (by rw [Nat.testBit_two_pow_sub_one]; exact decide_eq_true (List.getElem?_eq_some_iff.1 hs).1)
theorem Truth.halfF {t : Tw} {l : List Int} (h : fullT t l) (i : Nat) (s : Int × Int) (hs : t.vs[i]? = some s) : s.1 ≤ sumSel (fun x => x.half == (i : Int)) t.bs l ∧ sumSel (fun x => x.half == (i : Int)) t.bs l ≤ s.2 :=
  h.half i s hs (by rw [Nat.testBit_two_pow_sub_one]; exact decide_eq_true (List.getElem?_eq_some_iff.1 hs).1)

theorem Truth.range {t : Tw} (ht : t.OK) {a b : Nat} {l : List Int} (h : Truth t a b l) : ∀ x ∈ l, 0 ≤ x ∧ x ≤ 4 := by
  intro x hx
  obtain ⟨i, hi, e⟩ := List.getElem_of_mem hx
  have hl := h.len
  have hb : t.bs[i]? = some (t.bs[i]'(by omega)) := List.getElem?_eq_getElem _
  have h1 := h.word i _ hb
  have h2 := words_bound t ht (List.mem_of_getElem? hb)
  rw [List.getD_eq_getElem?_getD, List.getElem?_eq_getElem hi, Option.getD_some, e] at h1
  omega
end Go.Proofs.Yticdacdflemoiaa

/- Towels of which some counts alone are known: plain laws; the best of pairs. -/
namespace Go.Proofs.Yticdacdflemoiaa
open Go Go.Ab

/-- The first counts are done. -/
def openL (set : Nat) (l : List (Int × Int)) (k : Nat) : List (Int × Int) := l.mapIdx fun i s => if i < k ∧ set.testBit i = false then (0, 24) else s
def openT (t : Tw) (a b : Nat) : Tw := { t with hs := openL a t.hs t.hs.length, vs := openL b t.vs t.vs.length }

theorem openL_len (set : Nat) (l : List (Int × Int)) (k : Nat) : (openL set l k).length = l.length := by simp [openL]
theorem openL_zero (set : Nat) (l : List (Int × Int)) : openL set l 0 = l := by
  unfold openL
  apply List.ext_getElem?
  intro i
  rw [List.getElem?_mapIdx]
  simp
theorem openL_get {set : Nat} {l : List (Int × Int)} {k i : Nat} {s : Int × Int} (h : l[i]? = some s) : (openL set l k)[i]? = some (if i < k ∧ set.testBit i = false then (0, 24) else s) := by
  unfold openL
  rw [List.getElem?_mapIdx, h]
  rfl
theorem openL_succ {set : Nat} {l : List (Int × Int)} {k : Nat} (hk : k < l.length) : openL set l (k + 1) = if set.testBit k = false then (openL set l k).set k (0, 24) else openL set l k := by
  apply List.ext_getElem?
  intro i
  by_cases hi : i < l.length
  · rw [openL_get (List.getElem?_eq_getElem hi)]
    by_cases hb : set.testBit k = false
    · rw [if_pos hb]
      by_cases hik : i = k
      · subst hik
        rw [List.getElem?_set_self (by rw [openL_len]; exact hk), if_pos ⟨by omega, hb⟩]
      · rw [List.getElem?_set_ne (by omega), openL_get (List.getElem?_eq_getElem hi)]
        have : (i < k + 1) = (i < k) := by apply propext; omega
        simp only [this]
    · rw [if_neg hb, openL_get (List.getElem?_eq_getElem hi)]
      by_cases hik : i = k
      · subst hik
        rw [if_neg (fun h => hb h.2), if_neg (fun h => hb h.2)]
      · have : (i < k + 1) = (i < k) := by apply propext; omega
        simp only [this]
  · rw [List.getElem?_eq_none (by rw [openL_len]; omega), List.getElem?_eq_none]
    split
    · rw [List.length_set, openL_len]; omega
    · rw [openL_len]; omega

theorem openL_mem {set : Nat} {l : List (Int × Int)} {k : Nat} {s : Int × Int} (h : s ∈ openL set l k) : s ∈ l ∨ s = (0, 24) := by
  obtain ⟨i, hi⟩ := List.getElem?_of_mem h
  have hlt := (List.getElem?_eq_some_iff.1 hi).1
  rw [openL_len] at hlt
  rw [openL_get (List.getElem?_eq_getElem hlt)] at hi
  split at hi
  · exact .inr (by simpa using hi.symm)
  · exact .inl (by have := List.getElem_mem hlt; simp at hi; rwa [hi] at this)

theorem openT_OK {t : Tw} (ht : t.OK) (a b : Nat) : (openT t a b).OK := by
  refine ⟨ht.nb, by simpa [openT, openL_len] using ht.nh, by simpa [openT, openL_len] using ht.nv, ?_, ?_, ?_, ht.ne⟩
  · intro s hs
    rcases openL_mem hs with h | h
    · exact ht.hs s h
    · subst h; simp
  · intro s hs
    rcases openL_mem hs with h | h
    · exact ht.vs s h
    · subst h; simp
  · intro x hx
    have := ht.bs x hx
    simpa [openT, openL_len] using this

theorem openT_truth {t : Tw} (ht : t.OK) (a b : Nat) (l : List Int) : fullT (openT t a b) l ↔ Truth t a b l := by
  have sum24 : ∀ (p : B → Bool), (∀ x ∈ l, 0 ≤ x ∧ x ≤ 4) → l.length = t.bs.length → 0 ≤ sumSel p t.bs l ∧ sumSel p t.bs l ≤ 24 := fun p h1 h2 => by
    have := sumSel_bound p t.bs l h1
    have := ht.nb
    omega
  constructor
  · intro h
    have hr := Truth.range (openT_OK ht a b) h
    refine ⟨h.len, h.word, fun i s hs hb => ?_, fun i s hs hb => ?_⟩
    · have h1 := Truth.hutF h i (if i < t.hs.length ∧ a.testBit i = false then (0, 24) else s) (openL_get hs)
      rw [if_neg (by rw [hb]; simp)] at h1
      exact h1
    · have h1 := Truth.halfF h i (if i < t.vs.length ∧ b.testBit i = false then (0, 24) else s) (openL_get hs)
      rw [if_neg (by rw [hb]; simp)] at h1
      exact h1
  · intro h
    have hr := Truth.range ht h
    refine ⟨h.len, h.word, fun i s hs _ => ?_, fun i s hs _ => ?_⟩
    · have hlt := (List.getElem?_eq_some_iff.1 hs).1
      simp only [openT, openL_len] at hlt
      have e := openL_get (set := a) (k := t.hs.length) (List.getElem?_eq_getElem hlt)
      have e2 : (openT t a b).hs = openL a t.hs t.hs.length := rfl
      rw [e2, e] at hs
      have hs := (Option.some.inj hs).symm
      subst hs
      show _ ≤ sumSel _ t.bs l ∧ sumSel _ t.bs l ≤ _
      split
      · exact sum24 _ hr h.len
      · rename_i hn
        exact h.hut i _ (List.getElem?_eq_getElem hlt) (by simpa [hlt] using hn)
    · have hlt := (List.getElem?_eq_some_iff.1 hs).1
      simp only [openT, openL_len] at hlt
      have e := openL_get (set := b) (k := t.vs.length) (List.getElem?_eq_getElem hlt)
      have e2 : (openT t a b).vs = openL b t.vs t.vs.length := rfl
      rw [e2, e] at hs
      have hs := (Option.some.inj hs).symm
      subst hs
      show _ ≤ sumSel _ t.bs l ∧ sumSel _ t.bs l ≤ _
      split
      · exact sum24 _ hr h.len
      · rename_i hn
        exact h.half i _ (List.getElem?_eq_getElem hlt) (by simpa [hlt] using hn)

theorem openT_count {t : Tw} (ht : t.OK) (p : Nat × Nat) : ((specCount (openT t p.1 p.2)).1 == 0) = (clashG t p).2 := by
  have hK := openT_OK ht p.1 p.2
  have hc : specCount (openT t p.1 p.2) = docCount (openT t p.1 p.2) := Count_eq _
  have hd : (docCount (openT t p.1 p.2)).1 = (docA (openT t p.1 p.2)).length := by simp only [docCount, (Tw.ok_iff _).2 hK]; rfl
  rw [hc, hd, clashG_ok ht]
  rw [Bool.eq_iff_iff, beq_iff_eq, beq_iff_eq]
  have key : docA (openT t p.1 p.2) = [] ↔ docT t p.1 p.2 = [] := by
    rw [List.eq_nil_iff_forall_not_mem, List.eq_nil_iff_forall_not_mem]
    simp only [mem_docA hK, mem_docT ht, openT_truth ht]
  constructor
  · intro h
    rw [key.1 (List.eq_nil_of_length_eq_zero (by omega))]; rfl
  · intro h
    rw [key.2 (List.eq_nil_of_length_eq_zero (by omega))]; rfl

/-! ### The best of pairs -/
theorem pairsL_range (a b : Nat) : pairsL a b = (List.range (a * b)).map fun k => (k / b, k % b) := by
  induction a with
  | zero => simp [pairsL]
  | succ a ih =>
    rw [pairsL_succ, ih, Nat.succ_mul, List.range_add, List.map_append, List.map_map]
    congr 1
    refine List.map_congr_left fun y hy => ?_
    have hy := List.mem_range.1 hy
    have hb : 0 < b := by omega
    simp only [Function.comp_apply]
    rw [Nat.add_comm (a * b) y, Nat.add_mul_div_right _ _ hb, Nat.add_mul_mod_self_right, Nat.div_eq_of_lt hy, Nat.mod_eq_of_lt hy]
    simp

theorem bestL_map {α β : Type} (g : β → Int × Bool) (f : α → β) (l : List α) : bestL g (l.map f) = (bestL (fun x => g (f x)) l).map fun p => (f p.1, p.2) := by
  unfold bestL
  have key : ∀ (l : List α) (acc : Option (α × Int)), (l.map f).foldl (bestStep g) (acc.map fun p => (f p.1, p.2)) = (l.foldl (bestStep fun x => g (f x)) acc).map fun p => (f p.1, p.2) := by
    intro l
    induction l with
    | nil => intro acc; rfl
    | cons x l ih =>
      intro acc
      simp only [List.map_cons, List.foldl_cons]
      rw [← ih]
      congr 1
      unfold bestStep
      cases acc with
      | none => simp only [Option.map_none]; split <;> rfl
      | some p =>
        obtain ⟨p, c⟩ := p
        by_cases h1 : (g (f x)).2 = true
        · by_cases h2 : (g (f x)).1 < c
          · simp [h1, h2]
          · simp [h1, h2]
        · simp [h1]
  exact key l none

/-- The best of the pairs below two numbers. -/
def BestP (g : Nat × Nat → Int × Bool) (a b : Nat) : Option ((Nat × Nat) × Int) → Prop
  | none => ∀ x y, x < a → y < b → (g (x, y)).2 = false
  | some (p, c) => p.1 < a ∧ p.2 < b ∧ (g p).2 = true ∧ c = (g p).1 ∧ ∀ x y, x < a → y < b → (g (x, y)).2 = true → c < (g (x, y)).1 ∨ (c = (g (x, y)).1 ∧ (p.1 < x ∨ (p.1 = x ∧ p.2 ≤ y)))

theorem bestP (g : Nat × Nat → Int × Bool) (a b : Nat) : BestP g a b (bestL g (pairsL a b)) := by
  rw [pairsL_range, bestL_map]
  have h := bestAt (fun k => g (k / b, k % b)) (a * b)
  have hk : ∀ x y, x < a → y < b → x * b + y < a * b ∧ (x * b + y) / b = x ∧ (x * b + y) % b = y := fun x y hx hy => by
    have hb : 0 < b := by omega
    refine ⟨?_, ?_, ?_⟩
    · have : (x + 1) * b ≤ a * b := Nat.mul_le_mul_right b hx
      rw [Nat.succ_mul] at this
      omega
    · rw [Nat.add_comm, Nat.add_mul_div_right _ _ hb, Nat.div_eq_of_lt hy]; simp
    · rw [Nat.add_comm, Nat.add_mul_mod_self_right, Nat.mod_eq_of_lt hy]
  cases hbest : bestL (fun k => g (k / b, k % b)) (List.range (a * b)) with
  | none =>
    rw [hbest] at h
    intro x y hx hy
    obtain ⟨h1, h2, h3⟩ := hk x y hx hy
    have := h _ h1
    simp only [h2, h3] at this
    exact this
  | some q =>
    obtain ⟨k, c⟩ := q
    rw [hbest] at h
    obtain ⟨h1, h2, h3, h4⟩ := h
    have hb : 0 < b := by
      rcases Nat.eq_zero_or_pos b with h | h
      · subst h; simp at h1
      · exact h
    refine ⟨?_, Nat.mod_lt _ hb, h2, h3, fun x y hx hy ho => ?_⟩
    · exact Nat.div_lt_of_lt_mul (by rw [Nat.mul_comm]; exact h1)
    · obtain ⟨q1, q2, q3⟩ := hk x y hx hy
      have := h4 _ q1 (by simp only [q2, q3]; exact ho)
      simp only [q2, q3] at this
      rcases this with h | ⟨h, h'⟩
      · exact .inl h
      · refine .inr ⟨h, ?_⟩
        simp only
        have e := Nat.div_add_mod k b
        have hm := Nat.mod_lt k hb
        generalize k / b = kd at *
        generalize k % b = km at *
        rw [Nat.mul_comm b kd] at e
        by_cases hlt : kd < x
        · exact .inl hlt
        · right
          have : x ≤ kd := by omega
          have h5 : x * b ≤ kd * b := Nat.mul_le_mul_right b this
          by_cases hx2 : x = kd
          · subst hx2; omega
          · have : (x + 1) * b ≤ kd * b := Nat.mul_le_mul_right b (by omega)
            rw [Nat.succ_mul] at this
            omega

theorem clash_none {t : Tw} (ht : t.OK) : (clashG t (0, 0)).2 = false := by
  have hne : ∀ k, k ≤ t.bs.length → tupsK t (-1) 0 0 k ≠ [] := by
    intro k
    induction k with
    | zero => intro _; simp [tupsK]
    | succ k ih =>
      intro h e
      have hb : t.bs[k]? = some (t.bs[k]'(by omega)) := List.getElem?_eq_getElem _
      rw [tupsK_succ hb, List.flatMap_eq_nil_iff] at e
      obtain ⟨l, hl⟩ := List.exists_mem_of_ne_nil _ (ih (by omega))
      have h1 := e l hl
      rw [List.map_eq_nil_iff, canL_none] at h1
      have h2 := words_bound t ht (List.mem_of_getElem? hb)
      have : (words (t.bs[k]'(by omega))).1 ∈ rangeI (words (t.bs[k]'(by omega))).1 (words (t.bs[k]'(by omega))).2 := mem_rangeI.2 (by omega)
      rw [h1] at this
      simp at this
  have hc : cnts t 0 0 = [] := by unfold cnts cntsOf; simp
  unfold clashG truthsC
  rw [hc]
  simp only [List.all_nil]
  rw [List.filter_eq_self.2 (by simp)]
  have := hne _ (Nat.le_refl _)
  cases h : tupsK t (-1) 0 0 t.bs.length
  · exact absurd h this
  · rfl
end Go.Proofs.Yticdacdflemoiaa

/- TowelClash. -/
namespace Go.Proofs.Yticdacdflemoiaa
open Go Go.Ab

def rowS (l : List (Int × Int)) : AO := .row 2 ((l.map tS).map .t)

set_option maxRecDepth 8000 in
set_option maxHeartbeats 4000000 in
theorem clash41_ok (t : Tw) (ht : t.OK) (a b : Nat) (ha : a < 8) (hb : b < 8) : ACall Try.prog 41 [.t (vi a), .t (vi b), .t (capT t)] [] (ret (vb (clashG t (a, b)).2)) := by
  have hC := Count_ok (openT t a b)
  have hK := (Tw.ok_iff _).2 (openT_OK ht a b)
  have h0 : (specCount (openT t a b)).2 = 0 := by unfold specCount; rw [hK]; rfl
  rw [h0] at hC
  have hF := openT_count ht (a, b)
  simp only at hF
  rw [← hF]
  generalize (specCount (openT t a b)).1 = c at *
  simp only [oneE] at hC
  have hnh := ht.nh
  have hnv := ht.nv
  refine ACall.walk k41 ?_
  unfold c41 capT tw3
  refine awpL_chop 4 (c1 := ?c1) (c2 := ?c2) (fun s => s = { env := [(26, .t (vb false)), (25, .t (vi t.hs.length)), (24, .t (vi t.hs.length)), (6, .ptr 0 0), (0, .t (vi a)), (1, .t (vi b))], σ := [.cells [.t (.slice 6 (t.bs.map tB)), .loc 1 t.hs.length, .loc 2 t.vs.length], rowS (openL a t.hs t.hs.length), rowS t.vs] }) ?hc ?_ ?_
  case hc => simp only [chop]; rfl
  · simp only [go_sem, Nat.reduceEqDiff, Nat.reduceAdd, Nat.reduceSub, Nat.reduceMul, Nat.reduceLT, Nat.reduceLeDiff, Nat.reduceMod, Nat.reduceDiv, Int.reduceToNat, Int.reduceLT, Int.reduceLE, Bool.not_true, Bool.not_false, reduceIte]
    have hL1 : t.hs.length ≤ 2 ^ 63 - 1 ∧ t.hs.length * 16 ≤ 140737488355328 := by omega
    have hL2 : t.vs.length ≤ 2 ^ 63 - 1 ∧ t.vs.length * 16 ≤ 140737488355328 := by omega
    refine AndL.mk ?_ ?_
    · simp only [go_sem, Nat.reduceEqDiff, Nat.reduceAdd, Nat.reduceSub, Nat.reduceMul, Nat.reduceLT, Nat.reduceLeDiff, Nat.reduceMod, Nat.reduceDiv, Int.reduceToNat, Int.reduceLT, Int.reduceLE, Bool.not_true, Bool.not_false, reduceIte, List.length_map, maxLen]
      refine AndL.mk ?_ ?_
      · simp only [go_sem, Nat.reduceEqDiff, Nat.reduceAdd, Nat.reduceSub, Nat.reduceMul, Nat.reduceLT, Nat.reduceLeDiff, Nat.reduceMod, Nat.reduceDiv, Int.reduceToNat, Int.reduceLT, Int.reduceLE, Bool.not_true, Bool.not_false, reduceIte, List.length_map, maxLen]
        refine ⟨by omega, by omega, ?_⟩
        refine awpL_for (i := 25) (L := 24) t.hs.length (fun k s => s = { env := [(25, .t (vi k)), (24, .t (vi t.hs.length)), (6, .ptr 0 0), (0, .t (vi a)), (1, .t (vi b))], σ := [.cells [.t (.slice 6 (t.bs.map tB)), .loc 1 t.hs.length, .loc 2 t.vs.length], rowS (openL a t.hs k), rowS t.vs] })
          ?_ ⟨_, Sub.gc [0, 1, 2] [25, 24, 6, 0, 1] rfl rfl, by rw [openL_zero]; exact St.gc_mk rfl (by simp only [rowS, σgc, AO.gc, List.map_cons, List.map_nil, List.getD_cons_zero, List.getD_cons_succ, List.map_append, gc_t, gc_row]; rfl) rfl rfl⟩ ?_ ?_
        · rintro k s rfl; exact ⟨rfl, rfl⟩
        · rintro k s hk rfl
          have hlen := openL_len a t.hs k
          have hsucc := openL_succ (set := a) hk
          generalize openL a t.hs k = L at *
          have hw : IntKind.i64.wrap ((k : Int) + 1) = ((k + 1 : Nat) : Int) := by rw [wrap_id (by omega) (by omega)]; omega
          simp only [rowS, go_sem, Nat.reduceEqDiff, Nat.reduceAdd, Nat.reduceSub, Nat.reduceMul, Nat.reduceLT, Nat.reduceLeDiff, Nat.reduceMod, Nat.reduceDiv, Int.reduceToNat, Int.reduceLT, Int.reduceLE, Bool.not_true, Bool.not_false, reduceIte, nat_neg, bit_eq0 (show a < 9223372036854775808 by omega), List.length_map, hlen]
          cases hbit : a.testBit k
          · rw [hbit, if_pos rfl] at hsucc
            have hlt : (k : Int) < t.hs.length := by omega
            simp only [rowS, go_sem, Nat.reduceEqDiff, Nat.reduceAdd, Nat.reduceSub, Nat.reduceMul, Nat.reduceLT, Nat.reduceLeDiff, Nat.reduceMod, Nat.reduceDiv, Int.reduceToNat, Int.reduceLT, Int.reduceLE, Bool.not_true, Bool.not_false, reduceIte, nat_neg, List.length_map, hlen]
            refine ACallL.quiet1 (span_ok 0 24) rfl rfl rfl ?_
            simp only [rowS, go_sem, Nat.reduceEqDiff, Nat.reduceAdd, Nat.reduceSub, Nat.reduceMul, Nat.reduceLT, Nat.reduceLeDiff, Nat.reduceMod, Nat.reduceDiv, Int.reduceToNat, Int.reduceLT, Int.reduceLE, Bool.not_true, Bool.not_false, reduceIte, Int.reduceBEq, Int.reduceBNe, Int.reduceGT, Int.reduceGE, Int.reduceNeg, Int.reduceAdd, Int.reduceSub, Nat.reduceBEq, decide_true, decide_false, undef, beq_self_eq_true, bne_self_eq_false, Bool.and_true, Bool.true_and, Bool.and_false, Bool.false_and, Bool.or_true, Bool.true_or, Bool.or_false, Bool.false_or, List.length_map, hlen, List.getElem?_map, List.length_set]
            refine ⟨hlt, ?_⟩
            have hget : (L[k]?) = some L[k] := List.getElem?_eq_getElem (by omega)
            simp only [rowS, go_sem, Nat.reduceEqDiff, Nat.reduceAdd, Nat.reduceSub, Nat.reduceMul, Nat.reduceLT, Nat.reduceLeDiff, Nat.reduceMod, Nat.reduceDiv, Int.reduceToNat, Int.reduceLT, Int.reduceLE, Bool.not_true, Bool.not_false, reduceIte, Int.reduceBEq, Int.reduceBNe, Int.reduceGT, Int.reduceGE, Int.reduceNeg, Int.reduceAdd, Int.reduceSub, Nat.reduceBEq, decide_true, decide_false, undef, beq_self_eq_true, bne_self_eq_false, Bool.and_true, Bool.true_and, Bool.and_false, Bool.false_and, Bool.or_true, Bool.true_or, Bool.or_false, Bool.false_or, hget, tS, List.length_map, hlen, List.getElem?_map, List.length_set, hw]
            have hset : ((L.map tS).map E.t).set k (E.t (T.agg [vi 0, vi 24])) = ((L.set k (0, 24)).map tS).map E.t := by
              rw [show E.t (T.agg [vi 0, vi 24]) = E.t (tS (0, 24)) from rfl, ← List.map_set, ← List.map_set]
            refine ⟨_, Sub.gc [0, 1, 2] [25, 24, 6, 0, 1] rfl rfl, ?_⟩
            rw [hsucc, hset]
            exact St.gc_mk rfl (by simp only [rowS, σgc, AO.gc, List.map_cons, List.map_nil, List.getD_cons_zero, List.getD_cons_succ, List.map_append, gc_t, gc_row]; rfl) rfl rfl
          · rw [hbit, if_neg (by simp)] at hsucc
            rw [hsucc]
            simp only [rowS, go_sem, Nat.reduceEqDiff, Nat.reduceAdd, Nat.reduceSub, Nat.reduceMul, Nat.reduceLT, Nat.reduceLeDiff, Nat.reduceMod, Nat.reduceDiv, Int.reduceToNat, Int.reduceLT, Int.reduceLE, Bool.not_true, Bool.not_false, reduceIte, hw]
            exact ⟨_, Sub.gc [0, 1, 2] [25, 24, 6, 0, 1] rfl rfl, St.gc_mk rfl (by simp only [rowS, σgc, AO.gc, List.map_cons, List.map_nil, List.getD_cons_zero, List.getD_cons_succ, List.map_append, gc_t, gc_row]; rfl) rfl rfl⟩
        · rintro s rfl
          simp only [go_sem, Nat.reduceEqDiff, Nat.reduceAdd, Nat.reduceSub, Nat.reduceMul, Nat.reduceLT, Nat.reduceLeDiff, Nat.reduceMod, Nat.reduceDiv, Int.reduceToNat, Int.reduceLT, Int.reduceLE, Bool.not_true, Bool.not_false, reduceIte]
      · simp only [go_sem, Nat.reduceEqDiff, Nat.reduceAdd, Nat.reduceSub, Nat.reduceMul, Nat.reduceLT, Nat.reduceLeDiff, Nat.reduceMod, Nat.reduceDiv, Int.reduceToNat, Int.reduceLT, Int.reduceLE, Bool.not_true, Bool.not_false, reduceIte, List.length_map, maxLen]
        refine ⟨by omega, by omega, ?_⟩
        refine awpL_for (i := 25) (L := 24) t.hs.length (fun k s => s = { env := [(25, .t (vi k)), (24, .t (vi t.hs.length)), (6, .ptr 0 0), (0, .t (vi a)), (1, .t (vi b))], σ := [.cells [.t (.slice 6 (t.bs.map tB)), .loc 1 t.hs.length, .loc 2 t.vs.length], rowS (openL a t.hs k), rowS t.vs] })
          ?_ ⟨_, Sub.gc [0, 1, 2] [25, 24, 6, 0, 1] rfl rfl, by rw [openL_zero]; exact St.gc_mk rfl (by simp only [rowS, σgc, AO.gc, List.map_cons, List.map_nil, List.getD_cons_zero, List.getD_cons_succ, List.map_append, gc_t, gc_row]; rfl) rfl rfl⟩ ?_ ?_
        · rintro k s rfl; exact ⟨rfl, rfl⟩
        · rintro k s hk rfl
          have hlen := openL_len a t.hs k
          have hsucc := openL_succ (set := a) hk
          generalize openL a t.hs k = L at *
          have hw : IntKind.i64.wrap ((k : Int) + 1) = ((k + 1 : Nat) : Int) := by rw [wrap_id (by omega) (by omega)]; omega
          simp only [rowS, go_sem, Nat.reduceEqDiff, Nat.reduceAdd, Nat.reduceSub, Nat.reduceMul, Nat.reduceLT, Nat.reduceLeDiff, Nat.reduceMod, Nat.reduceDiv, Int.reduceToNat, Int.reduceLT, Int.reduceLE, Bool.not_true, Bool.not_false, reduceIte, nat_neg, bit_eq0 (show a < 9223372036854775808 by omega), List.length_map, hlen]
          cases hbit : a.testBit k
          · rw [hbit, if_pos rfl] at hsucc
            have hlt : (k : Int) < t.hs.length := by omega
            simp only [rowS, go_sem, Nat.reduceEqDiff, Nat.reduceAdd, Nat.reduceSub, Nat.reduceMul, Nat.reduceLT, Nat.reduceLeDiff, Nat.reduceMod, Nat.reduceDiv, Int.reduceToNat, Int.reduceLT, Int.reduceLE, Bool.not_true, Bool.not_false, reduceIte, nat_neg, List.length_map, hlen]
            refine ACallL.quiet1 (span_ok 0 24) rfl rfl rfl ?_
            simp only [rowS, go_sem, Nat.reduceEqDiff, Nat.reduceAdd, Nat.reduceSub, Nat.reduceMul, Nat.reduceLT, Nat.reduceLeDiff, Nat.reduceMod, Nat.reduceDiv, Int.reduceToNat, Int.reduceLT, Int.reduceLE, Bool.not_true, Bool.not_false, reduceIte, Int.reduceBEq, Int.reduceBNe, Int.reduceGT, Int.reduceGE, Int.reduceNeg, Int.reduceAdd, Int.reduceSub, Nat.reduceBEq, decide_true, decide_false, undef, beq_self_eq_true, bne_self_eq_false, Bool.and_true, Bool.true_and, Bool.and_false, Bool.false_and, Bool.or_true, Bool.true_or, Bool.or_false, Bool.false_or, List.length_map, hlen, List.getElem?_map, List.length_set]
            refine ⟨hlt, ?_⟩
            have hget : (L[k]?) = some L[k] := List.getElem?_eq_getElem (by omega)
            simp only [rowS, go_sem, Nat.reduceEqDiff, Nat.reduceAdd, Nat.reduceSub, Nat.reduceMul, Nat.reduceLT, Nat.reduceLeDiff, Nat.reduceMod, Nat.reduceDiv, Int.reduceToNat, Int.reduceLT, Int.reduceLE, Bool.not_true, Bool.not_false, reduceIte, Int.reduceBEq, Int.reduceBNe, Int.reduceGT, Int.reduceGE, Int.reduceNeg, Int.reduceAdd, Int.reduceSub, Nat.reduceBEq, decide_true, decide_false, undef, beq_self_eq_true, bne_self_eq_false, Bool.and_true, Bool.true_and, Bool.and_false, Bool.false_and, Bool.or_true, Bool.true_or, Bool.or_false, Bool.false_or, hget, tS, List.length_map, hlen, List.getElem?_map, List.length_set, hw]
            have hset : ((L.map tS).map E.t).set k (E.t (T.agg [vi 0, vi 24])) = ((L.set k (0, 24)).map tS).map E.t := by
              rw [show E.t (T.agg [vi 0, vi 24]) = E.t (tS (0, 24)) from rfl, ← List.map_set, ← List.map_set]
            refine ⟨_, Sub.gc [0, 1, 2] [25, 24, 6, 0, 1] rfl rfl, ?_⟩
            rw [hsucc, hset]
            exact St.gc_mk rfl (by simp only [rowS, σgc, AO.gc, List.map_cons, List.map_nil, List.getD_cons_zero, List.getD_cons_succ, List.map_append, gc_t, gc_row]; rfl) rfl rfl
          · rw [hbit, if_neg (by simp)] at hsucc
            rw [hsucc]
            simp only [rowS, go_sem, Nat.reduceEqDiff, Nat.reduceAdd, Nat.reduceSub, Nat.reduceMul, Nat.reduceLT, Nat.reduceLeDiff, Nat.reduceMod, Nat.reduceDiv, Int.reduceToNat, Int.reduceLT, Int.reduceLE, Bool.not_true, Bool.not_false, reduceIte, hw]
            exact ⟨_, Sub.gc [0, 1, 2] [25, 24, 6, 0, 1] rfl rfl, St.gc_mk rfl (by simp only [rowS, σgc, AO.gc, List.map_cons, List.map_nil, List.getD_cons_zero, List.getD_cons_succ, List.map_append, gc_t, gc_row]; rfl) rfl rfl⟩
        · rintro s rfl
          simp only [go_sem, Nat.reduceEqDiff, Nat.reduceAdd, Nat.reduceSub, Nat.reduceMul, Nat.reduceLT, Nat.reduceLeDiff, Nat.reduceMod, Nat.reduceDiv, Int.reduceToNat, Int.reduceLT, Int.reduceLE, Bool.not_true, Bool.not_false, reduceIte]
    · simp only [go_sem, Nat.reduceEqDiff, Nat.reduceAdd, Nat.reduceSub, Nat.reduceMul, Nat.reduceLT, Nat.reduceLeDiff, Nat.reduceMod, Nat.reduceDiv, Int.reduceToNat, Int.reduceLT, Int.reduceLE, Bool.not_true, Bool.not_false, reduceIte, List.length_map, maxLen]
      refine ⟨by omega, by omega, ?_⟩
      refine awpL_for (i := 25) (L := 24) t.hs.length (fun k s => s = { env := [(25, .t (vi k)), (24, .t (vi t.hs.length)), (6, .ptr 0 0), (0, .t (vi a)), (1, .t (vi b))], σ := [.cells [.t (.slice 6 (t.bs.map tB)), .loc 1 t.hs.length, .loc 2 t.vs.length], rowS (openL a t.hs k), rowS t.vs] })
        ?_ ⟨_, Sub.gc [0, 2, 1] [25, 24, 6, 0, 1] rfl rfl, by rw [openL_zero]; exact St.gc_mk rfl (by simp only [rowS, σgc, AO.gc, List.map_cons, List.map_nil, List.getD_cons_zero, List.getD_cons_succ, List.map_append, gc_t, gc_row]; rfl) rfl rfl⟩ ?_ ?_
      · rintro k s rfl; exact ⟨rfl, rfl⟩
      · rintro k s hk rfl
        have hlen := openL_len a t.hs k
        have hsucc := openL_succ (set := a) hk
        generalize openL a t.hs k = L at *
        have hw : IntKind.i64.wrap ((k : Int) + 1) = ((k + 1 : Nat) : Int) := by rw [wrap_id (by omega) (by omega)]; omega
        simp only [rowS, go_sem, Nat.reduceEqDiff, Nat.reduceAdd, Nat.reduceSub, Nat.reduceMul, Nat.reduceLT, Nat.reduceLeDiff, Nat.reduceMod, Nat.reduceDiv, Int.reduceToNat, Int.reduceLT, Int.reduceLE, Bool.not_true, Bool.not_false, reduceIte, nat_neg, bit_eq0 (show a < 9223372036854775808 by omega), List.length_map, hlen]
        cases hbit : a.testBit k
        · rw [hbit, if_pos rfl] at hsucc
          have hlt : (k : Int) < t.hs.length := by omega
          simp only [rowS, go_sem, Nat.reduceEqDiff, Nat.reduceAdd, Nat.reduceSub, Nat.reduceMul, Nat.reduceLT, Nat.reduceLeDiff, Nat.reduceMod, Nat.reduceDiv, Int.reduceToNat, Int.reduceLT, Int.reduceLE, Bool.not_true, Bool.not_false, reduceIte, nat_neg, List.length_map, hlen]
          refine ACallL.quiet1 (span_ok 0 24) rfl rfl rfl ?_
          simp only [rowS, go_sem, Nat.reduceEqDiff, Nat.reduceAdd, Nat.reduceSub, Nat.reduceMul, Nat.reduceLT, Nat.reduceLeDiff, Nat.reduceMod, Nat.reduceDiv, Int.reduceToNat, Int.reduceLT, Int.reduceLE, Bool.not_true, Bool.not_false, reduceIte, Int.reduceBEq, Int.reduceBNe, Int.reduceGT, Int.reduceGE, Int.reduceNeg, Int.reduceAdd, Int.reduceSub, Nat.reduceBEq, decide_true, decide_false, undef, beq_self_eq_true, bne_self_eq_false, Bool.and_true, Bool.true_and, Bool.and_false, Bool.false_and, Bool.or_true, Bool.true_or, Bool.or_false, Bool.false_or, List.length_map, hlen, List.getElem?_map, List.length_set]
          refine ⟨hlt, ?_⟩
          have hget : (L[k]?) = some L[k] := List.getElem?_eq_getElem (by omega)
          simp only [rowS, go_sem, Nat.reduceEqDiff, Nat.reduceAdd, Nat.reduceSub, Nat.reduceMul, Nat.reduceLT, Nat.reduceLeDiff, Nat.reduceMod, Nat.reduceDiv, Int.reduceToNat, Int.reduceLT, Int.reduceLE, Bool.not_true, Bool.not_false, reduceIte, Int.reduceBEq, Int.reduceBNe, Int.reduceGT, Int.reduceGE, Int.reduceNeg, Int.reduceAdd, Int.reduceSub, Nat.reduceBEq, decide_true, decide_false, undef, beq_self_eq_true, bne_self_eq_false, Bool.and_true, Bool.true_and, Bool.and_false, Bool.false_and, Bool.or_true, Bool.true_or, Bool.or_false, Bool.false_or, hget, tS, List.length_map, hlen, List.getElem?_map, List.length_set, hw]
          have hset : ((L.map tS).map E.t).set k (E.t (T.agg [vi 0, vi 24])) = ((L.set k (0, 24)).map tS).map E.t := by
            rw [show E.t (T.agg [vi 0, vi 24]) = E.t (tS (0, 24)) from rfl, ← List.map_set, ← List.map_set]
          refine ⟨_, Sub.gc [0, 1, 2] [25, 24, 6, 0, 1] rfl rfl, ?_⟩
          rw [hsucc, hset]
          exact St.gc_mk rfl (by simp only [rowS, σgc, AO.gc, List.map_cons, List.map_nil, List.getD_cons_zero, List.getD_cons_succ, List.map_append, gc_t, gc_row]; rfl) rfl rfl
        · rw [hbit, if_neg (by simp)] at hsucc
          rw [hsucc]
          simp only [rowS, go_sem, Nat.reduceEqDiff, Nat.reduceAdd, Nat.reduceSub, Nat.reduceMul, Nat.reduceLT, Nat.reduceLeDiff, Nat.reduceMod, Nat.reduceDiv, Int.reduceToNat, Int.reduceLT, Int.reduceLE, Bool.not_true, Bool.not_false, reduceIte, hw]
          exact ⟨_, Sub.gc [0, 1, 2] [25, 24, 6, 0, 1] rfl rfl, St.gc_mk rfl (by simp only [rowS, σgc, AO.gc, List.map_cons, List.map_nil, List.getD_cons_zero, List.getD_cons_succ, List.map_append, gc_t, gc_row]; rfl) rfl rfl⟩
      · rintro s rfl
        simp only [go_sem, Nat.reduceEqDiff, Nat.reduceAdd, Nat.reduceSub, Nat.reduceMul, Nat.reduceLT, Nat.reduceLeDiff, Nat.reduceMod, Nat.reduceDiv, Int.reduceToNat, Int.reduceLT, Int.reduceLE, Bool.not_true, Bool.not_false, reduceIte]
  · rintro s rfl
    simp only [rowS, go_sem, Nat.reduceEqDiff, Nat.reduceAdd, Nat.reduceSub, Nat.reduceMul, Nat.reduceLT, Nat.reduceLeDiff, Nat.reduceMod, Nat.reduceDiv, Int.reduceToNat, Int.reduceLT, Int.reduceLE, Bool.not_true, Bool.not_false, reduceIte, List.length_map]
    refine awpL_for (i := 42) (L := 41) t.vs.length (fun k s => s = { env := [(42, .t (vi k)), (41, .t (vi t.vs.length)), (6, .ptr 0 0), (1, .t (vi b))], σ := [.cells [.t (.slice 6 (t.bs.map tB)), .loc 1 t.hs.length, .loc 2 t.vs.length], rowS (openL a t.hs t.hs.length), rowS (openL b t.vs k)] })
      ?_ ⟨_, Sub.gc [0, 1, 2] [42, 41, 6, 1] rfl rfl, by rw [openL_zero]; exact St.gc_mk rfl (by simp only [rowS, σgc, AO.gc, List.map_cons, List.map_nil, List.getD_cons_zero, List.getD_cons_succ, List.map_append, gc_t, gc_row]; rfl) rfl rfl⟩ ?_ ?_
    · rintro k s rfl; exact ⟨rfl, rfl⟩
    · rintro k s hk rfl
      have hlen := openL_len b t.vs k
      have hsucc := openL_succ (set := b) hk
      generalize openL b t.vs k = L at *
      have hw : IntKind.i64.wrap ((k : Int) + 1) = ((k + 1 : Nat) : Int) := by rw [wrap_id (by omega) (by omega)]; omega
      simp only [rowS, go_sem, Nat.reduceEqDiff, Nat.reduceAdd, Nat.reduceSub, Nat.reduceMul, Nat.reduceLT, Nat.reduceLeDiff, Nat.reduceMod, Nat.reduceDiv, Int.reduceToNat, Int.reduceLT, Int.reduceLE, Bool.not_true, Bool.not_false, reduceIte, nat_neg, bit_eq0 (show b < 9223372036854775808 by omega), List.length_map, hlen]
      cases hbit : b.testBit k
      · rw [hbit, if_pos rfl] at hsucc
        have hlt : (k : Int) < t.vs.length := by omega
        simp only [rowS, go_sem, Nat.reduceEqDiff, Nat.reduceAdd, Nat.reduceSub, Nat.reduceMul, Nat.reduceLT, Nat.reduceLeDiff, Nat.reduceMod, Nat.reduceDiv, Int.reduceToNat, Int.reduceLT, Int.reduceLE, Bool.not_true, Bool.not_false, reduceIte, nat_neg, List.length_map, hlen]
        refine ACallL.quiet1 (span_ok 0 24) rfl rfl rfl ?_
        simp only [rowS, go_sem, Nat.reduceEqDiff, Nat.reduceAdd, Nat.reduceSub, Nat.reduceMul, Nat.reduceLT, Nat.reduceLeDiff, Nat.reduceMod, Nat.reduceDiv, Int.reduceToNat, Int.reduceLT, Int.reduceLE, Bool.not_true, Bool.not_false, reduceIte, Int.reduceBEq, Int.reduceBNe, Int.reduceGT, Int.reduceGE, Int.reduceNeg, Int.reduceAdd, Int.reduceSub, Nat.reduceBEq, decide_true, decide_false, undef, beq_self_eq_true, bne_self_eq_false, Bool.and_true, Bool.true_and, Bool.and_false, Bool.false_and, Bool.or_true, Bool.true_or, Bool.or_false, Bool.false_or, List.length_map, hlen, List.getElem?_map, List.length_set]
        refine ⟨hlt, ?_⟩
        have hget : (L[k]?) = some L[k] := List.getElem?_eq_getElem (by omega)
        simp only [rowS, go_sem, Nat.reduceEqDiff, Nat.reduceAdd, Nat.reduceSub, Nat.reduceMul, Nat.reduceLT, Nat.reduceLeDiff, Nat.reduceMod, Nat.reduceDiv, Int.reduceToNat, Int.reduceLT, Int.reduceLE, Bool.not_true, Bool.not_false, reduceIte, Int.reduceBEq, Int.reduceBNe, Int.reduceGT, Int.reduceGE, Int.reduceNeg, Int.reduceAdd, Int.reduceSub, Nat.reduceBEq, decide_true, decide_false, undef, beq_self_eq_true, bne_self_eq_false, Bool.and_true, Bool.true_and, Bool.and_false, Bool.false_and, Bool.or_true, Bool.true_or, Bool.or_false, Bool.false_or, hget, tS, List.length_map, hlen, List.getElem?_map, List.length_set, hw]
        have hset : ((L.map tS).map E.t).set k (E.t (T.agg [vi 0, vi 24])) = ((L.set k (0, 24)).map tS).map E.t := by
          rw [show E.t (T.agg [vi 0, vi 24]) = E.t (tS (0, 24)) from rfl, ← List.map_set, ← List.map_set]
        refine ⟨_, Sub.gc [0, 1, 2] [42, 41, 6, 1] rfl rfl, ?_⟩
        rw [hsucc, hset]
        exact St.gc_mk rfl (by simp only [rowS, σgc, AO.gc, List.map_cons, List.map_nil, List.getD_cons_zero, List.getD_cons_succ, List.map_append, gc_t, gc_row]; rfl) rfl rfl
      · rw [hbit, if_neg (by simp)] at hsucc
        rw [hsucc]
        simp only [rowS, go_sem, Nat.reduceEqDiff, Nat.reduceAdd, Nat.reduceSub, Nat.reduceMul, Nat.reduceLT, Nat.reduceLeDiff, Nat.reduceMod, Nat.reduceDiv, Int.reduceToNat, Int.reduceLT, Int.reduceLE, Bool.not_true, Bool.not_false, reduceIte, hw]
        exact ⟨_, Sub.gc [0, 1, 2] [42, 41, 6, 1] rfl rfl, St.gc_mk rfl (by simp only [rowS, σgc, AO.gc, List.map_cons, List.map_nil, List.getD_cons_zero, List.getD_cons_succ, List.map_append, gc_t, gc_row]; rfl) rfl rfl⟩
    · rintro s rfl
      simp only [rowS, go_sem, Nat.reduceEqDiff, Nat.reduceAdd, Nat.reduceSub, Nat.reduceMul, Nat.reduceLT, Nat.reduceLeDiff, Nat.reduceMod, Nat.reduceDiv, Int.reduceToNat, Int.reduceLT, Int.reduceLE, Bool.not_true, Bool.not_false, reduceIte]
      have hgl : ∀ (A : AO), E.gc [] [A, .row 2 (((openL a t.hs t.hs.length).map tS).map E.t), .row 2 (((openL b t.vs t.vs.length).map tS).map E.t)] 12 (.agg [.t (.slice 6 (t.bs.map tB)), .loc 1 t.hs.length, .loc 2 t.vs.length]) = .t (.agg (tw3 (openT t a b))) := fun A => by
        rw [E.gc]
        simp only [List.map_cons, List.map_nil]
        rw [gc_loc (n := 9) (xs := (openL a t.hs t.hs.length).map tS) rfl rfl (by simp [openL_len]), gc_loc (n := 9) (xs := (openL b t.vs t.vs.length).map tS) rfl rfl (by simp [openL_len])]
        simp only [gc_t]
        rfl
      refine ACallL.quiet1 hC rfl (by simp only [List.map_cons, List.map_nil, hgl]) rfl ?_
      simp only [go_sem, Nat.reduceEqDiff, Nat.reduceAdd, Nat.reduceSub, Nat.reduceMul, Nat.reduceLT, Nat.reduceLeDiff, Nat.reduceMod, Nat.reduceDiv, Int.reduceToNat, Int.reduceLT, Int.reduceLE, Bool.not_true, Bool.not_false, reduceIte, Int.reduceBEq, Int.reduceBNe, Int.reduceGT, Int.reduceGE, Int.reduceNeg, Int.reduceAdd, Int.reduceSub, Nat.reduceBEq, decide_true, decide_false, undef, beq_self_eq_true, bne_self_eq_false, Bool.and_true, Bool.true_and, Bool.and_false, Bool.false_and, Bool.or_true, Bool.true_or, Bool.or_false, Bool.false_or]
      exact finL_ret [] ⟨rfl, rfl, rfl, rfl, _, rfl, res_mk rfl⟩

theorem or_lt8 {n : Nat} (h : n ≤ 3) : 2 ^ n ≤ 8 := Nat.pow_le_pow_right (n := 2) (by omega) h

set_option maxRecDepth 8000 in
set_option maxHeartbeats 4000000 in
theorem TowelClash_ok (t : Tw) (w : Nat) (hw : w < 256) : ACall Try.prog 10 [.t (.agg (tw3 t)), .t (.lit (.int .u8 w))] [] (res (.ret (.t (vb true)))) := by
  have h29 := Clash_ok t
  have h23 := Count_ok t
  rw [Count_eq] at h23
  refine ACall.walk k10 ?_
  unfold c10 tw3
  simp only [go_sem, Nat.reduceEqDiff, Nat.reduceAdd, Nat.reduceSub, Nat.reduceMul, Nat.reduceLT, Nat.reduceLeDiff, Nat.reduceMod, Nat.reduceDiv, Int.reduceToNat, Int.reduceLT, Int.reduceLE, Bool.not_true, Bool.not_false, reduceIte]
  refine ACallL.quiet1 (fine_ok t) rfl rfl rfl ?_
  cases hF : (!(farB t) && t.ok)
  · simp only [go_sem, Nat.reduceEqDiff, Nat.reduceAdd, Nat.reduceSub, Nat.reduceMul, Nat.reduceLT, Nat.reduceLeDiff, Nat.reduceMod, Nat.reduceDiv, Int.reduceToNat, Int.reduceLT, Int.reduceLE, Bool.not_true, Bool.not_false, reduceIte, undef]
    refine ACallL.quiet1 awake_ok rfl rfl rfl ?_
    simp only [go_sem, Nat.reduceEqDiff, Nat.reduceAdd, Nat.reduceSub, Nat.reduceMul, Nat.reduceLT, Nat.reduceLeDiff, Nat.reduceMod, Nat.reduceDiv, Int.reduceToNat, Int.reduceLT, Int.reduceLE, Bool.not_true, Bool.not_false, reduceIte, undef]
    exact finL_ret [] ⟨rfl, rfl, rfl, rfl, _, rfl, res_mk rfl⟩
  · have hok : t.ok = true := by cases h : t.ok <;> simp_all
    have ht := (Tw.ok_iff t).1 hok
    have hnh := ht.nh
    have hnv := ht.nv
    have hcs : docCount t = (((docA t).length : Int), (0 : Int)) := by simp only [docCount, hok]; rfl
    rw [hcs] at h23
    simp only [oneE] at h23
    have hB := bestP (clashG t) (2 ^ t.hs.length) (2 ^ t.vs.length)
    have hspec : specClash t = match bestL (clashG t) (pairsL (2 ^ t.hs.length) (2 ^ t.vs.length)) with
      | some (p, _) => (p.1, p.2, 0)
      | none => (0, 0, 4) := by simp only [specClash, hok]; rfl
    have hA1 := Nat.two_pow_pos t.hs.length
    have hV1 := Nat.two_pow_pos t.vs.length
    have hA8 := or_lt8 hnh
    have hV8 := or_lt8 hnv
    have hfull : (clashG t (2 ^ t.hs.length - 1, 2 ^ t.vs.length - 1)).2 = true ↔ docA t = [] := by
      rw [clashG_ok ht]
      show ((((docA t).length : Int) == 0) = true) ↔ _
      rw [beq_iff_eq]
      constructor
      · intro h; exact List.eq_nil_of_length_eq_zero (by omega)
      · intro h; rw [h]; rfl
    rw [hspec] at h29
    have hcan := fun a b ha hb => clash41_ok t ht a b ha hb
    cases hb : bestL (clashG t) (pairsL (2 ^ t.hs.length) (2 ^ t.vs.length)) with
    | none =>
      rw [hb] at hB h29
      have hD : docA t ≠ [] := by
        have := hB (2 ^ t.hs.length - 1) (2 ^ t.vs.length - 1) (by omega) (by omega)
        rw [← Bool.not_eq_true, hfull] at this
        exact this
      have hpos : 0 < (docA t).length := List.length_pos_iff.2 hD
      generalize (docA t).length = N at *
      have g1 : ((N : Int) == 0) = false := by simp; omega
      simp only [twoE] at h29
      simp only [go_sem, Nat.reduceEqDiff, Nat.reduceAdd, Nat.reduceSub, Nat.reduceMul, Nat.reduceLT, Nat.reduceLeDiff, Nat.reduceMod, Nat.reduceDiv, Int.reduceToNat, Int.reduceLT, Int.reduceLE, Bool.not_true, Bool.not_false, reduceIte]
      refine ACallL.fresh1 h29 rfl ?_
      simp only [go_sem, Nat.reduceEqDiff, Nat.reduceAdd, Nat.reduceSub, Nat.reduceMul, Nat.reduceLT, Nat.reduceLeDiff, Nat.reduceMod, Nat.reduceDiv, Int.reduceToNat, Int.reduceLT, Int.reduceLE, Bool.not_true, Bool.not_false, reduceIte]
      refine ACallL.fresh1 h23 rfl ?_
      simp only [go_sem, Nat.reduceEqDiff, Nat.reduceAdd, Nat.reduceSub, Nat.reduceMul, Nat.reduceLT, Nat.reduceLeDiff, Nat.reduceMod, Nat.reduceDiv, Int.reduceToNat, Int.reduceLT, Int.reduceLE, Bool.not_true, Bool.not_false, reduceIte, Int.reduceBEq, Int.reduceBNe, Int.reduceGT, Int.reduceGE, Int.reduceNeg, Int.reduceAdd, Int.reduceSub, Nat.reduceBEq, decide_true, decide_false, undef, beq_self_eq_true, bne_self_eq_false, Bool.and_true, Bool.true_and, Bool.and_false, Bool.false_and, Bool.or_true, Bool.true_or, Bool.or_false, Bool.false_or, g1]
      refine ACallL.quiet1 awake_ok rfl rfl rfl ?_
      simp only [go_sem, Nat.reduceEqDiff, Nat.reduceAdd, Nat.reduceSub, Nat.reduceMul, Nat.reduceLT, Nat.reduceLeDiff, Nat.reduceMod, Nat.reduceDiv, Int.reduceToNat, Int.reduceLT, Int.reduceLE, Bool.not_true, Bool.not_false, reduceIte, Int.reduceBEq, Int.reduceBNe, Int.reduceGT, Int.reduceGE, Int.reduceNeg, Int.reduceAdd, Int.reduceSub, Nat.reduceBEq, decide_true, decide_false, undef, beq_self_eq_true, bne_self_eq_false, Bool.and_true, Bool.true_and, Bool.and_false, Bool.false_and, Bool.or_true, Bool.true_or, Bool.or_false, Bool.false_or]
      exact finL_ret [] ⟨rfl, rfl, rfl, rfl, _, rfl, res_mk rfl⟩
    | some q =>
      obtain ⟨⟨a, b⟩, c⟩ := q
      rw [hb] at hB h29
      obtain ⟨b1, b2, b3, b4, b5⟩ := hB
      simp only at b1 b2
      have hD : docA t = [] := by
        rcases Classical.em (docA t = []) with h | h
        · exact h
        · obtain ⟨l, hl⟩ := List.exists_mem_of_ne_nil _ h
          rw [docA_eq ht] at hl
          have := truth_fewer hl a b
          unfold clashG at b3
          simp only [List.isEmpty_iff] at b3
          rw [b3] at this
          simp at this
      rw [hD] at h23
      have hc : c = ((size a + size b : Nat) : Int) := b4
      subst hc
      simp only [twoE, List.length_nil] at h29 h23
      simp only [go_sem, Nat.reduceEqDiff, Nat.reduceAdd, Nat.reduceSub, Nat.reduceMul, Nat.reduceLT, Nat.reduceLeDiff, Nat.reduceMod, Nat.reduceDiv, Int.reduceToNat, Int.reduceLT, Int.reduceLE, Bool.not_true, Bool.not_false, reduceIte]
      refine ACallL.fresh1 h29 rfl ?_
      simp only [go_sem, Nat.reduceEqDiff, Nat.reduceAdd, Nat.reduceSub, Nat.reduceMul, Nat.reduceLT, Nat.reduceLeDiff, Nat.reduceMod, Nat.reduceDiv, Int.reduceToNat, Int.reduceLT, Int.reduceLE, Bool.not_true, Bool.not_false, reduceIte]
      refine ACallL.fresh1 h23 rfl ?_
      have hab : (((a : Int) + b) == 0) = false := by
        rw [beq_eq_false_iff_ne]
        intro h
        obtain ⟨rfl, rfl⟩ : a = 0 ∧ b = 0 := by omega
        rw [clash_none ht] at b3
        simp at b3
      have hra := rsize_ok a (by omega)
      have hrb := rsize_ok b (by omega)
      have hw0 : IntKind.i64.wrap (w : Int) = w := wrap_id (by omega) (by omega)
      have hs1 : IntKind.i64.wrap (1 * 2 ^ (min t.hs.length 64)) = ((2 ^ t.hs.length : Nat) : Int) := shl_one (by omega)
      have hs2 : IntKind.i64.wrap (1 * 2 ^ (min t.vs.length 64)) = ((2 ^ t.vs.length : Nat) : Int) := shl_one (by omega)
      have hx : w &&& (2 ^ t.hs.length - 1) < 2 ^ t.hs.length := and_lt (by omega)
      have hy : (w >>> 3) &&& (2 ^ t.vs.length - 1) < 2 ^ t.vs.length := and_lt (by omega)
      have hb1 : bits .and .i64 (w : Int) ((2 ^ t.hs.length : Nat) - 1 : Int) = ((w &&& (2 ^ t.hs.length - 1) : Nat) : Int) := by
        rw [pow_cast, bits_and (by omega) (by omega)]
      have hw3 : w >>> 3 < 256 := by rw [Nat.shiftRight_eq_div_pow]; omega
      have hb2 : bits .and .i64 ((w : Int).fdiv (2 ^ (min 3 64))) ((2 ^ t.vs.length : Nat) - 1 : Int) = (((w >>> 3) &&& (2 ^ t.vs.length - 1) : Nat) : Int) := by
        rw [shr_nat (by omega), pow_cast, bits_and (by omega) (by omega)]
      have hcx := hcan _ _ (Nat.lt_of_lt_of_le hx hA8) (Nat.lt_of_lt_of_le hy hV8)
      have hrx := rsize_ok _ (Nat.lt_of_lt_of_le (Nat.lt_of_lt_of_le hx hA8) (by omega : 8 ≤ 64))
      have hry := rsize_ok _ (Nat.lt_of_lt_of_le (Nat.lt_of_lt_of_le hy hV8) (by omega : 8 ≤ 64))
      have hbx := b5 _ _ hx hy
      have hwd1 : IntKind.i64.wrap (((2 ^ t.hs.length : Nat) : Int) - 1) = ((2 ^ t.hs.length : Nat) : Int) - 1 := wrap_id (by omega) (by omega)
      have hwd2 : IntKind.i64.wrap (((2 ^ t.vs.length : Nat) : Int) - 1) = ((2 ^ t.vs.length : Nat) : Int) - 1 := wrap_id (by omega) (by omega)
      generalize w &&& (2 ^ t.hs.length - 1) = x at *
      generalize (w >>> 3) &&& (2 ^ t.vs.length - 1) = y at *
      generalize 2 ^ t.hs.length = A at *
      generalize 2 ^ t.vs.length = V at *
      have hcab := hcan a b (by omega) (by omega)
      rw [b3] at hcab
      have g2 : decide ((a : Int) < 0) = false := decide_eq_false (by omega)
      have g3 : decide ((a : Int) > (A : Int) - 1) = false := by simp; omega
      have g4 : decide ((b : Int) < 0) = false := decide_eq_false (by omega)
      have g5 : decide ((b : Int) > (V : Int) - 1) = false := by simp; omega
      have g6 : IntKind.i64.wrap ((a : Int) + b) = (a : Int) + b := wrap_id (by omega) (by omega)
      simp only [go_sem, Nat.reduceEqDiff, Nat.reduceAdd, Nat.reduceSub, Nat.reduceMul, Nat.reduceLT, Nat.reduceLeDiff, Nat.reduceMod, Nat.reduceDiv, Int.reduceToNat, Int.reduceLT, Int.reduceLE, Bool.not_true, Bool.not_false, reduceIte, Int.reduceBEq, Int.reduceBNe, Int.reduceGT, Int.reduceGE, Int.reduceNeg, Int.reduceAdd, Int.reduceSub, Nat.reduceBEq, decide_true, decide_false, undef, beq_self_eq_true, bne_self_eq_false, Bool.and_true, Bool.true_and, Bool.and_false, Bool.false_and, Bool.or_true, Bool.true_or, Bool.or_false, Bool.false_or, g2, g3, g4, g5, g6, hab, List.length_map, hs1, hs2, hwd1, hwd2, nat_neg]
      refine ACallL.quiet1 hcab rfl rfl rfl ?_
      simp only [go_sem, Nat.reduceEqDiff, Nat.reduceAdd, Nat.reduceSub, Nat.reduceMul, Nat.reduceLT, Nat.reduceLeDiff, Nat.reduceMod, Nat.reduceDiv, Int.reduceToNat, Int.reduceLT, Int.reduceLE, Bool.not_true, Bool.not_false, reduceIte, Int.reduceBEq, Int.reduceBNe, Int.reduceGT, Int.reduceGE, Int.reduceNeg, Int.reduceAdd, Int.reduceSub, Nat.reduceBEq, decide_true, decide_false, undef, beq_self_eq_true, bne_self_eq_false, Bool.and_true, Bool.true_and, Bool.and_false, Bool.false_and, Bool.or_true, Bool.true_or, Bool.or_false, Bool.false_or]
      have hval : ∀ p : Nat × Nat, (clashG t p).1 = ((size p.1 + size p.2 : Nat) : Int) := clashG_cost t
      refine awpL_forC 3 rfl (fun k s => s = { env := [(102, .t (vi k)), (10, .t (.fn (.func 41) [] [capT t])), (11, .t (vi ((A : Int) - 1))), (12, .t (vi ((V : Int) - 1))), (6, .t (vi b)), (5, .t (vi a)), (1, .t (.lit (.int .u8 w)))], σ := [] })
        ?_ ⟨_, Sub.gc [] [102, 10, 11, 12, 6, 5, 1] rfl rfl, rfl⟩ ?_ ?_
      · rintro k s rfl; rfl
      · rintro k s hk rfl
        have hw : IntKind.i64.wrap ((k : Int) + 1) = ((k + 1 : Nat) : Int) := by rw [wrap_id (by omega) (by omega)]; omega
        have hp2 : IntKind.i64.wrap (1 * 2 ^ (min k 64)) = ((2 ^ k : Nat) : Int) := shl_one (by omega)
        have hk2 : 2 ^ k ≤ 64 := Nat.pow_le_pow_right (n := 2) (j := 6) (by omega) (by omega)
        have hbaA := bits_andNot (show a < 9223372036854775808 by omega) (show 2 ^ k < 9223372036854775808 by omega)
        have hbaB := bits_andNot (show b < 9223372036854775808 by omega) (show 2 ^ k < 9223372036854775808 by omega)
        have hbA := bit_eq (a := a) (i := k) (by omega)
        have hbB := bit_eq (a := b) (i := k) (by omega)
        have noA : a.testBit k = true → ACall Try.prog 41 [E.t (vi (ndiff a (2 ^ k) : Nat)), E.t (vi b), E.t (capT t)] [] (ret (vb false)) := fun hbit => by
          obtain ⟨_, l2⟩ := size_less a (by omega) k (by omega) hbit
          have l1 := ndiff_le a (2 ^ k)
          have := hcan (ndiff a (2 ^ k)) b (by omega) (by omega)
          have hno : (clashG t (ndiff a (2 ^ k), b)).2 = false := by
            rw [← Bool.not_eq_true]
            intro h
            have h5 := b5 _ _ (by omega) b2 h
            rw [hval] at h5
            simp only at h5
            omega
          rwa [hno] at this
        have noB : b.testBit k = true → ACall Try.prog 41 [E.t (vi a), E.t (vi (ndiff b (2 ^ k) : Nat)), E.t (capT t)] [] (ret (vb false)) := fun hbit => by
          obtain ⟨_, l2⟩ := size_less b (by omega) k (by omega) hbit
          have l1 := ndiff_le b (2 ^ k)
          have := hcan a (ndiff b (2 ^ k)) (by omega) (by omega)
          have hno : (clashG t (a, ndiff b (2 ^ k))).2 = false := by
            rw [← Bool.not_eq_true]
            intro h
            have h5 := b5 _ _ b1 (by omega) h
            rw [hval] at h5
            simp only at h5
            omega
          rwa [hno] at this
        simp only [go_sem, Nat.reduceEqDiff, Nat.reduceAdd, Nat.reduceSub, Nat.reduceMul, Nat.reduceLT, Nat.reduceLeDiff, Nat.reduceMod, Nat.reduceDiv, Int.reduceToNat, Int.reduceLT, Int.reduceLE, Bool.not_true, Bool.not_false, reduceIte, Int.reduceBEq, Int.reduceBNe, Int.reduceGT, Int.reduceGE, Int.reduceNeg, Int.reduceAdd, Int.reduceSub, Nat.reduceBEq, decide_true, decide_false, undef, beq_self_eq_true, bne_self_eq_false, Bool.and_true, Bool.true_and, Bool.and_false, Bool.false_and, Bool.or_true, Bool.true_or, Bool.or_false, Bool.false_or, nat_neg, hbA]
        cases hA : a.testBit k
        · simp only [go_sem, Nat.reduceEqDiff, Nat.reduceAdd, Nat.reduceSub, Nat.reduceMul, Nat.reduceLT, Nat.reduceLeDiff, Nat.reduceMod, Nat.reduceDiv, Int.reduceToNat, Int.reduceLT, Int.reduceLE, Bool.not_true, Bool.not_false, reduceIte, Int.reduceBEq, Int.reduceBNe, Int.reduceGT, Int.reduceGE, Int.reduceNeg, Int.reduceAdd, Int.reduceSub, Nat.reduceBEq, decide_true, decide_false, undef, beq_self_eq_true, bne_self_eq_false, Bool.and_true, Bool.true_and, Bool.and_false, Bool.false_and, Bool.or_true, Bool.true_or, Bool.or_false, Bool.false_or, nat_neg, hbB]
          cases hB : b.testBit k
          · simp only [go_sem, Nat.reduceEqDiff, Nat.reduceAdd, Nat.reduceSub, Nat.reduceMul, Nat.reduceLT, Nat.reduceLeDiff, Nat.reduceMod, Nat.reduceDiv, Int.reduceToNat, Int.reduceLT, Int.reduceLE, Bool.not_true, Bool.not_false, reduceIte, Int.reduceBEq, Int.reduceBNe, Int.reduceGT, Int.reduceGE, Int.reduceNeg, Int.reduceAdd, Int.reduceSub, Nat.reduceBEq, decide_true, decide_false, undef, beq_self_eq_true, bne_self_eq_false, Bool.and_true, Bool.true_and, Bool.and_false, Bool.false_and, Bool.or_true, Bool.true_or, Bool.or_false, Bool.false_or, hw]
            exact ⟨_, Sub.gc [] [102, 10, 11, 12, 6, 5, 1] rfl rfl, rfl⟩
          · simp only [go_sem, Nat.reduceEqDiff, Nat.reduceAdd, Nat.reduceSub, Nat.reduceMul, Nat.reduceLT, Nat.reduceLeDiff, Nat.reduceMod, Nat.reduceDiv, Int.reduceToNat, Int.reduceLT, Int.reduceLE, Bool.not_true, Bool.not_false, reduceIte, Int.reduceBEq, Int.reduceBNe, Int.reduceGT, Int.reduceGE, Int.reduceNeg, Int.reduceAdd, Int.reduceSub, Nat.reduceBEq, decide_true, decide_false, undef, beq_self_eq_true, bne_self_eq_false, Bool.and_true, Bool.true_and, Bool.and_false, Bool.false_and, Bool.or_true, Bool.true_or, Bool.or_false, Bool.false_or, nat_neg, hp2, hbaB]
            refine ACallL.quiet1 (noB hB) rfl rfl rfl ?_
            simp only [go_sem, Nat.reduceEqDiff, Nat.reduceAdd, Nat.reduceSub, Nat.reduceMul, Nat.reduceLT, Nat.reduceLeDiff, Nat.reduceMod, Nat.reduceDiv, Int.reduceToNat, Int.reduceLT, Int.reduceLE, Bool.not_true, Bool.not_false, reduceIte, Int.reduceBEq, Int.reduceBNe, Int.reduceGT, Int.reduceGE, Int.reduceNeg, Int.reduceAdd, Int.reduceSub, Nat.reduceBEq, decide_true, decide_false, undef, beq_self_eq_true, bne_self_eq_false, Bool.and_true, Bool.true_and, Bool.and_false, Bool.false_and, Bool.or_true, Bool.true_or, Bool.or_false, Bool.false_or, hw]
            exact ⟨_, Sub.gc [] [102, 10, 11, 12, 6, 5, 1] rfl rfl, rfl⟩
        · simp only [go_sem, Nat.reduceEqDiff, Nat.reduceAdd, Nat.reduceSub, Nat.reduceMul, Nat.reduceLT, Nat.reduceLeDiff, Nat.reduceMod, Nat.reduceDiv, Int.reduceToNat, Int.reduceLT, Int.reduceLE, Bool.not_true, Bool.not_false, reduceIte, Int.reduceBEq, Int.reduceBNe, Int.reduceGT, Int.reduceGE, Int.reduceNeg, Int.reduceAdd, Int.reduceSub, Nat.reduceBEq, decide_true, decide_false, undef, beq_self_eq_true, bne_self_eq_false, Bool.and_true, Bool.true_and, Bool.and_false, Bool.false_and, Bool.or_true, Bool.true_or, Bool.or_false, Bool.false_or, nat_neg, hp2, hbaA]
          refine ACallL.quiet1 (noA hA) rfl rfl rfl ?_
          simp only [go_sem, Nat.reduceEqDiff, Nat.reduceAdd, Nat.reduceSub, Nat.reduceMul, Nat.reduceLT, Nat.reduceLeDiff, Nat.reduceMod, Nat.reduceDiv, Int.reduceToNat, Int.reduceLT, Int.reduceLE, Bool.not_true, Bool.not_false, reduceIte, Int.reduceBEq, Int.reduceBNe, Int.reduceGT, Int.reduceGE, Int.reduceNeg, Int.reduceAdd, Int.reduceSub, Nat.reduceBEq, decide_true, decide_false, undef, beq_self_eq_true, bne_self_eq_false, Bool.and_true, Bool.true_and, Bool.and_false, Bool.false_and, Bool.or_true, Bool.true_or, Bool.or_false, Bool.false_or, nat_neg, hbB]
          cases hB : b.testBit k
          · simp only [go_sem, Nat.reduceEqDiff, Nat.reduceAdd, Nat.reduceSub, Nat.reduceMul, Nat.reduceLT, Nat.reduceLeDiff, Nat.reduceMod, Nat.reduceDiv, Int.reduceToNat, Int.reduceLT, Int.reduceLE, Bool.not_true, Bool.not_false, reduceIte, Int.reduceBEq, Int.reduceBNe, Int.reduceGT, Int.reduceGE, Int.reduceNeg, Int.reduceAdd, Int.reduceSub, Nat.reduceBEq, decide_true, decide_false, undef, beq_self_eq_true, bne_self_eq_false, Bool.and_true, Bool.true_and, Bool.and_false, Bool.false_and, Bool.or_true, Bool.true_or, Bool.or_false, Bool.false_or, hw]
            exact ⟨_, Sub.gc [] [102, 10, 11, 12, 6, 5, 1] rfl rfl, rfl⟩
          · simp only [go_sem, Nat.reduceEqDiff, Nat.reduceAdd, Nat.reduceSub, Nat.reduceMul, Nat.reduceLT, Nat.reduceLeDiff, Nat.reduceMod, Nat.reduceDiv, Int.reduceToNat, Int.reduceLT, Int.reduceLE, Bool.not_true, Bool.not_false, reduceIte, Int.reduceBEq, Int.reduceBNe, Int.reduceGT, Int.reduceGE, Int.reduceNeg, Int.reduceAdd, Int.reduceSub, Nat.reduceBEq, decide_true, decide_false, undef, beq_self_eq_true, bne_self_eq_false, Bool.and_true, Bool.true_and, Bool.and_false, Bool.false_and, Bool.or_true, Bool.true_or, Bool.or_false, Bool.false_or, nat_neg, hp2, hbaB]
            refine ACallL.quiet1 (noB hB) rfl rfl rfl ?_
            simp only [go_sem, Nat.reduceEqDiff, Nat.reduceAdd, Nat.reduceSub, Nat.reduceMul, Nat.reduceLT, Nat.reduceLeDiff, Nat.reduceMod, Nat.reduceDiv, Int.reduceToNat, Int.reduceLT, Int.reduceLE, Bool.not_true, Bool.not_false, reduceIte, Int.reduceBEq, Int.reduceBNe, Int.reduceGT, Int.reduceGE, Int.reduceNeg, Int.reduceAdd, Int.reduceSub, Nat.reduceBEq, decide_true, decide_false, undef, beq_self_eq_true, bne_self_eq_false, Bool.and_true, Bool.true_and, Bool.and_false, Bool.false_and, Bool.or_true, Bool.true_or, Bool.or_false, Bool.false_or, hw]
            exact ⟨_, Sub.gc [] [102, 10, 11, 12, 6, 5, 1] rfl rfl, rfl⟩
      · rintro s rfl
        simp only [go_sem, Nat.reduceEqDiff, Nat.reduceAdd, Nat.reduceSub, Nat.reduceMul, Nat.reduceLT, Nat.reduceLeDiff, Nat.reduceMod, Nat.reduceDiv, Int.reduceToNat, Int.reduceLT, Int.reduceLE, Bool.not_true, Bool.not_false, reduceIte, Int.reduceBEq, Int.reduceBNe, Int.reduceGT, Int.reduceGE, Int.reduceNeg, Int.reduceAdd, Int.reduceSub, Nat.reduceBEq, decide_true, decide_false, undef, beq_self_eq_true, bne_self_eq_false, Bool.and_true, Bool.true_and, Bool.and_false, Bool.false_and, Bool.or_true, Bool.true_or, Bool.or_false, Bool.false_or, hw0, hb1, hb2]
        refine ACallL.quiet1 hrx rfl rfl rfl ?_
        simp only [go_sem, Nat.reduceEqDiff, Nat.reduceAdd, Nat.reduceSub, Nat.reduceMul, Nat.reduceLT, Nat.reduceLeDiff, Nat.reduceMod, Nat.reduceDiv, Int.reduceToNat, Int.reduceLT, Int.reduceLE, Bool.not_true, Bool.not_false, reduceIte, Int.reduceBEq, Int.reduceBNe, Int.reduceGT, Int.reduceGE, Int.reduceNeg, Int.reduceAdd, Int.reduceSub, Nat.reduceBEq, decide_true, decide_false, undef, beq_self_eq_true, bne_self_eq_false, Bool.and_true, Bool.true_and, Bool.and_false, Bool.false_and, Bool.or_true, Bool.true_or, Bool.or_false, Bool.false_or]
        refine ACallL.quiet1 hry rfl rfl rfl ?_
        simp only [go_sem, Nat.reduceEqDiff, Nat.reduceAdd, Nat.reduceSub, Nat.reduceMul, Nat.reduceLT, Nat.reduceLeDiff, Nat.reduceMod, Nat.reduceDiv, Int.reduceToNat, Int.reduceLT, Int.reduceLE, Bool.not_true, Bool.not_false, reduceIte, Int.reduceBEq, Int.reduceBNe, Int.reduceGT, Int.reduceGE, Int.reduceNeg, Int.reduceAdd, Int.reduceSub, Nat.reduceBEq, decide_true, decide_false, undef, beq_self_eq_true, bne_self_eq_false, Bool.and_true, Bool.true_and, Bool.and_false, Bool.false_and, Bool.or_true, Bool.true_or, Bool.or_false, Bool.false_or]
        refine ACallL.quiet1 hra rfl rfl rfl ?_
        simp only [go_sem, Nat.reduceEqDiff, Nat.reduceAdd, Nat.reduceSub, Nat.reduceMul, Nat.reduceLT, Nat.reduceLeDiff, Nat.reduceMod, Nat.reduceDiv, Int.reduceToNat, Int.reduceLT, Int.reduceLE, Bool.not_true, Bool.not_false, reduceIte, Int.reduceBEq, Int.reduceBNe, Int.reduceGT, Int.reduceGE, Int.reduceNeg, Int.reduceAdd, Int.reduceSub, Nat.reduceBEq, decide_true, decide_false, undef, beq_self_eq_true, bne_self_eq_false, Bool.and_true, Bool.true_and, Bool.and_false, Bool.false_and, Bool.or_true, Bool.true_or, Bool.or_false, Bool.false_or]
        refine ACallL.quiet1 hrb rfl rfl rfl ?_
        simp only [go_sem, Nat.reduceEqDiff, Nat.reduceAdd, Nat.reduceSub, Nat.reduceMul, Nat.reduceLT, Nat.reduceLeDiff, Nat.reduceMod, Nat.reduceDiv, Int.reduceToNat, Int.reduceLT, Int.reduceLE, Bool.not_true, Bool.not_false, reduceIte, Int.reduceBEq, Int.reduceBNe, Int.reduceGT, Int.reduceGE, Int.reduceNeg, Int.reduceAdd, Int.reduceSub, Nat.reduceBEq, decide_true, decide_false, undef, beq_self_eq_true, bne_self_eq_false, Bool.and_true, Bool.true_and, Bool.and_false, Bool.false_and, Bool.or_true, Bool.true_or, Bool.or_false, Bool.false_or]
        refine ACallL.quiet1 hcx rfl rfl rfl ?_
        have s1 := size_le6 x (by omega)
        have s2 := size_le6 y (by omega)
        have s3 := size_le6 a (by omega)
        have s4 := size_le6 b (by omega)
        have e1 : IntKind.i64.wrap (((size x : Nat) : Int) + (size y : Nat)) = ((size x + size y : Nat) : Int) := by rw [wrap_id (by omega) (by omega)]; omega
        have e2 : IntKind.i64.wrap (((size a : Nat) : Int) + (size b : Nat)) = ((size a + size b : Nat) : Int) := by rw [wrap_id (by omega) (by omega)]; omega
        rw [hval] at hbx
        simp only at hbx
        have fin : ∀ st : St, st.df = [] → st.k = 0 → True := fun _ _ _ => trivial
        cases hr : (clashG t (x, y)).2
        · simp only [go_sem, Nat.reduceEqDiff, Nat.reduceAdd, Nat.reduceSub, Nat.reduceMul, Nat.reduceLT, Nat.reduceLeDiff, Nat.reduceMod, Nat.reduceDiv, Int.reduceToNat, Int.reduceLT, Int.reduceLE, Bool.not_true, Bool.not_false, reduceIte, Int.reduceBEq, Int.reduceBNe, Int.reduceGT, Int.reduceGE, Int.reduceNeg, Int.reduceAdd, Int.reduceSub, Nat.reduceBEq, decide_true, decide_false, undef, beq_self_eq_true, bne_self_eq_false, Bool.and_true, Bool.true_and, Bool.and_false, Bool.false_and, Bool.or_true, Bool.true_or, Bool.or_false, Bool.false_or]
          refine ACallL.quiet1 awake_ok rfl rfl rfl ?_
          simp only [go_sem, Nat.reduceEqDiff, Nat.reduceAdd, Nat.reduceSub, Nat.reduceMul, Nat.reduceLT, Nat.reduceLeDiff, Nat.reduceMod, Nat.reduceDiv, Int.reduceToNat, Int.reduceLT, Int.reduceLE, Bool.not_true, Bool.not_false, reduceIte, Int.reduceBEq, Int.reduceBNe, Int.reduceGT, Int.reduceGE, Int.reduceNeg, Int.reduceAdd, Int.reduceSub, Nat.reduceBEq, decide_true, decide_false, undef, beq_self_eq_true, bne_self_eq_false, Bool.and_true, Bool.true_and, Bool.and_false, Bool.false_and, Bool.or_true, Bool.true_or, Bool.or_false, Bool.false_or]
          exact finL_ret [] ⟨rfl, rfl, rfl, rfl, _, rfl, res_mk rfl⟩
        · have hbx := hbx hr
          simp only [go_sem, Nat.reduceEqDiff, Nat.reduceAdd, Nat.reduceSub, Nat.reduceMul, Nat.reduceLT, Nat.reduceLeDiff, Nat.reduceMod, Nat.reduceDiv, Int.reduceToNat, Int.reduceLT, Int.reduceLE, Bool.not_true, Bool.not_false, reduceIte, Int.reduceBEq, Int.reduceBNe, Int.reduceGT, Int.reduceGE, Int.reduceNeg, Int.reduceAdd, Int.reduceSub, Nat.reduceBEq, decide_true, decide_false, undef, beq_self_eq_true, bne_self_eq_false, Bool.and_true, Bool.true_and, Bool.and_false, Bool.false_and, Bool.or_true, Bool.true_or, Bool.or_false, Bool.false_or, e1, e2]
          generalize size x + size y = c at *
          generalize size a + size b = d at *
          cases hA : decide ((c : Int) > d)
          · have q1 : ((c : Int) == d) = true := by simp at hA ⊢; omega
            have hcd : c = d := by have : (c : Int) = d := by simpa using q1
                                   omega
            simp only [go_sem, Nat.reduceEqDiff, Nat.reduceAdd, Nat.reduceSub, Nat.reduceMul, Nat.reduceLT, Nat.reduceLeDiff, Nat.reduceMod, Nat.reduceDiv, Int.reduceToNat, Int.reduceLT, Int.reduceLE, Bool.not_true, Bool.not_false, reduceIte, Int.reduceBEq, Int.reduceBNe, Int.reduceGT, Int.reduceGE, Int.reduceNeg, Int.reduceAdd, Int.reduceSub, Nat.reduceBEq, decide_true, decide_false, undef, beq_self_eq_true, bne_self_eq_false, Bool.and_true, Bool.true_and, Bool.and_false, Bool.false_and, Bool.or_true, Bool.true_or, Bool.or_false, Bool.false_or, q1]
            cases hB : decide ((x : Int) > a)
            · have q2 : ((x : Int) == a) = true := by simp at hB ⊢; omega
              have q3 : decide ((y : Int) ≥ b) = true := by simp at hB ⊢; omega
              simp only [go_sem, Nat.reduceEqDiff, Nat.reduceAdd, Nat.reduceSub, Nat.reduceMul, Nat.reduceLT, Nat.reduceLeDiff, Nat.reduceMod, Nat.reduceDiv, Int.reduceToNat, Int.reduceLT, Int.reduceLE, Bool.not_true, Bool.not_false, reduceIte, Int.reduceBEq, Int.reduceBNe, Int.reduceGT, Int.reduceGE, Int.reduceNeg, Int.reduceAdd, Int.reduceSub, Nat.reduceBEq, decide_true, decide_false, undef, beq_self_eq_true, bne_self_eq_false, Bool.and_true, Bool.true_and, Bool.and_false, Bool.false_and, Bool.or_true, Bool.true_or, Bool.or_false, Bool.false_or, q2, q3]
              refine ACallL.quiet1 awake_ok rfl rfl rfl ?_
              simp only [go_sem, Nat.reduceEqDiff, Nat.reduceAdd, Nat.reduceSub, Nat.reduceMul, Nat.reduceLT, Nat.reduceLeDiff, Nat.reduceMod, Nat.reduceDiv, Int.reduceToNat, Int.reduceLT, Int.reduceLE, Bool.not_true, Bool.not_false, reduceIte, Int.reduceBEq, Int.reduceBNe, Int.reduceGT, Int.reduceGE, Int.reduceNeg, Int.reduceAdd, Int.reduceSub, Nat.reduceBEq, decide_true, decide_false, undef, beq_self_eq_true, bne_self_eq_false, Bool.and_true, Bool.true_and, Bool.and_false, Bool.false_and, Bool.or_true, Bool.true_or, Bool.or_false, Bool.false_or]
              exact finL_ret [] ⟨rfl, rfl, rfl, rfl, _, rfl, res_mk rfl⟩
            · simp only [go_sem, Nat.reduceEqDiff, Nat.reduceAdd, Nat.reduceSub, Nat.reduceMul, Nat.reduceLT, Nat.reduceLeDiff, Nat.reduceMod, Nat.reduceDiv, Int.reduceToNat, Int.reduceLT, Int.reduceLE, Bool.not_true, Bool.not_false, reduceIte, Int.reduceBEq, Int.reduceBNe, Int.reduceGT, Int.reduceGE, Int.reduceNeg, Int.reduceAdd, Int.reduceSub, Nat.reduceBEq, decide_true, decide_false, undef, beq_self_eq_true, bne_self_eq_false, Bool.and_true, Bool.true_and, Bool.and_false, Bool.false_and, Bool.or_true, Bool.true_or, Bool.or_false, Bool.false_or]
              refine ACallL.quiet1 awake_ok rfl rfl rfl ?_
              simp only [go_sem, Nat.reduceEqDiff, Nat.reduceAdd, Nat.reduceSub, Nat.reduceMul, Nat.reduceLT, Nat.reduceLeDiff, Nat.reduceMod, Nat.reduceDiv, Int.reduceToNat, Int.reduceLT, Int.reduceLE, Bool.not_true, Bool.not_false, reduceIte, Int.reduceBEq, Int.reduceBNe, Int.reduceGT, Int.reduceGE, Int.reduceNeg, Int.reduceAdd, Int.reduceSub, Nat.reduceBEq, decide_true, decide_false, undef, beq_self_eq_true, bne_self_eq_false, Bool.and_true, Bool.true_and, Bool.and_false, Bool.false_and, Bool.or_true, Bool.true_or, Bool.or_false, Bool.false_or]
              exact finL_ret [] ⟨rfl, rfl, rfl, rfl, _, rfl, res_mk rfl⟩
          · simp only [go_sem, Nat.reduceEqDiff, Nat.reduceAdd, Nat.reduceSub, Nat.reduceMul, Nat.reduceLT, Nat.reduceLeDiff, Nat.reduceMod, Nat.reduceDiv, Int.reduceToNat, Int.reduceLT, Int.reduceLE, Bool.not_true, Bool.not_false, reduceIte, Int.reduceBEq, Int.reduceBNe, Int.reduceGT, Int.reduceGE, Int.reduceNeg, Int.reduceAdd, Int.reduceSub, Nat.reduceBEq, decide_true, decide_false, undef, beq_self_eq_true, bne_self_eq_false, Bool.and_true, Bool.true_and, Bool.and_false, Bool.false_and, Bool.or_true, Bool.true_or, Bool.or_false, Bool.false_or]
            refine ACallL.quiet1 awake_ok rfl rfl rfl ?_
            simp only [go_sem, Nat.reduceEqDiff, Nat.reduceAdd, Nat.reduceSub, Nat.reduceMul, Nat.reduceLT, Nat.reduceLeDiff, Nat.reduceMod, Nat.reduceDiv, Int.reduceToNat, Int.reduceLT, Int.reduceLE, Bool.not_true, Bool.not_false, reduceIte, Int.reduceBEq, Int.reduceBNe, Int.reduceGT, Int.reduceGE, Int.reduceNeg, Int.reduceAdd, Int.reduceSub, Nat.reduceBEq, decide_true, decide_false, undef, beq_self_eq_true, bne_self_eq_false, Bool.and_true, Bool.true_and, Bool.and_false, Bool.false_and, Bool.or_true, Bool.true_or, Bool.or_false, Bool.false_or]
            exact finL_ret [] ⟨rfl, rfl, rfl, rfl, _, rfl, res_mk rfl⟩
end Go.Proofs.Yticdacdflemoiaa
