/- Proved here: laws that the statements need (TwY2). No conditions but those that each law states. -/
import Derived.Test.YticdacdflemoiaaLN

set_option linter.unusedSimpArgs false
set_option linter.unusedVariables false

/- What is told of fewer truths; of one of the truths: plain laws. -/
namespace Go.Proofs.Yticdacdflemoiaa
open Go Go.Ab

theorem ndiff_zero {a b : Nat} : ndiff a b = 0 ↔ ∀ i, a.testBit i = true → b.testBit i = true := by
  constructor
  · intro h i hi
    have := ndiff_bit a b i
    rw [h, Nat.zero_testBit, hi] at this
    simpa using this.symm
  · intro h
    apply Nat.eq_of_testBit_eq
    intro i
    rw [ndiff_bit, Nat.zero_testBit]
    have := h i
    cases ha : a.testBit i <;> simp_all

theorem hullD_sub {xs ys : List Int} (hy : ys ≠ []) (h : ∀ y ∈ ys, y ∈ xs) : (hullD xs).1 ≤ (hullD ys).1 ∧ (hullD ys).2 ≤ (hullD xs).2 := by
  have hx : xs ≠ [] := by
    obtain ⟨y, hy'⟩ := List.exists_mem_of_ne_nil _ hy
    exact List.ne_nil_of_mem (h y hy')
  exact ⟨(hullD_min hx).2 _ (h _ (hullD_min hy).1), (hullD_max hx).2 _ (h _ (hullD_max hy).1)⟩

theorem fewD_is {ds : List (List Int)} (h : ds ≠ []) : (∃ l ∈ ds, fewD ds = someOf l) ∧ ∀ l ∈ ds, size (fewD ds) < size (someOf l) ∨ (size (fewD ds) = size (someOf l) ∧ fewD ds ≤ someOf l) := by
  have hne : ds.map someOf ≠ [] := by simpa using h
  have hh : (ds.map someOf).headD 0 ∈ ds.map someOf := headD_memN hne
  obtain ⟨h1, h2⟩ := fewS_min (ds.map someOf) ((ds.map someOf).headD 0)
  constructor
  · have : fewD ds ∈ ds.map someOf := by
      unfold fewD
      rcases h1 with h1 | h1
      · rw [h1]; exact hh
      · exact h1
    obtain ⟨l, hl, e⟩ := List.mem_map.1 this
    exact ⟨l, hl, e.symm⟩
  · intro l hl
    exact h2 (someOf l) (.inr (List.mem_map_of_mem hl))

theorem fewD_sub {ds ds' : List (List Int)} (h' : ds' ≠ []) (h : ∀ l ∈ ds', l ∈ ds) : size (fewD ds) ≤ size (fewD ds') := by
  have hds : ds ≠ [] := by
    obtain ⟨l, hl⟩ := List.exists_mem_of_ne_nil _ h'
    exact List.ne_nil_of_mem (h l hl)
  obtain ⟨l, hl, e⟩ := (fewD_is h').1
  rw [e]
  have := (fewD_is hds).2 l (h l hl)
  omega

def whoS (ds : List (List Int)) (n : Nat) : Nat := maskOf (fun i => ds.all fun l => decide (l.getD i 0 > 0)) n
def whoP (ds : List (List Int)) (n : Nat) : Nat := maskOf (fun i => ds.any fun l => decide (l.getD i 0 > 0)) n

theorem whoS_bit {ds : List (List Int)} {n i : Nat} : (whoS ds n).testBit i = true ↔ i < n ∧ ∀ l ∈ ds, l.getD i 0 > 0 := by
  unfold whoS
  rw [testBit_maskOf, Bool.and_eq_true, List.all_eq_true]
  simp
theorem whoP_bit {ds : List (List Int)} {n i : Nat} : (whoP ds n).testBit i = true ↔ i < n ∧ ∃ l ∈ ds, l.getD i 0 > 0 := by
  unfold whoP
  rw [testBit_maskOf, Bool.and_eq_true, List.any_eq_true]
  simp
theorem whoS_lt (ds : List (List Int)) (n : Nat) : whoS ds n < 2 ^ n := maskOf_lt _ n
theorem whoP_lt (ds : List (List Int)) (n : Nat) : whoP ds n < 2 ^ n := maskOf_lt _ n
theorem someOf_bit {l : List Int} {i : Nat} : (someOf l).testBit i = true ↔ i < l.length ∧ l.getD i 0 > 0 := by
  unfold someOf
  rw [testBit_maskOf, Bool.and_eq_true]
  simp

theorem whoS_sub {ds ds' : List (List Int)} (h : ∀ l ∈ ds', l ∈ ds) (n : Nat) : ndiff (whoS ds n) (whoS ds' n) = 0 := by
  rw [ndiff_zero]
  intro i hi
  rw [whoS_bit] at hi ⊢
  exact ⟨hi.1, fun l hl => hi.2 l (h l hl)⟩
theorem whoP_sub {ds ds' : List (List Int)} (h : ∀ l ∈ ds', l ∈ ds) (n : Nat) : ndiff (whoP ds' n) (whoP ds n) = 0 := by
  rw [ndiff_zero]
  intro i hi
  rw [whoP_bit] at hi ⊢
  obtain ⟨h1, l, h2, h3⟩ := hi
  exact ⟨h1, l, h l h2, h3⟩

/-- Towels that are known better. -/
structure Narrow (t x : Tw) : Prop where
  nb : x.bs.length = t.bs.length
  nh : x.hs.length = t.hs.length
  nv : x.vs.length = t.vs.length
  pos : x.bs.map posB = t.bs.map posB
  word : ∀ (i : Nat) b c, t.bs[i]? = some b → x.bs[i]? = some c → b.ll ≤ c.ll ∧ c.lh ≤ b.lh ∧ b.bl ≤ c.bl ∧ c.bh ≤ b.bh
  hut : ∀ (i : Nat) b c, t.hs[i]? = some b → x.hs[i]? = some c → b.1 ≤ c.1 ∧ c.2 ≤ b.2
  half : ∀ (i : Nat) b c, t.vs[i]? = some b → x.vs[i]? = some c → b.1 ≤ c.1 ∧ c.2 ≤ b.2

theorem sumSel_pos (p : B → Bool) (hp : ∀ b c, posB b = posB c → p b = p c) : ∀ (bs bs' : List B) (l : List Int), bs.map posB = bs'.map posB → sumSel p bs l = sumSel p bs' l
  | [], [], _, _ => rfl
  | [], _ :: _, _, h => by simp at h
  | _ :: _, [], _, h => by simp at h
  | b :: bs, b' :: bs', [], h => rfl
  | b :: bs, b' :: bs', x :: l, h => by
    simp only [List.map_cons, List.cons.injEq] at h
    have ih := sumSel_pos p hp bs bs' l h.2
    unfold sumSel at *
    simp only [List.zip_cons_cons, List.map_cons, List.sum_cons]
    rw [ih, hp b b' h.1]

theorem Narrow.truth {t x : Tw} (h : Narrow t x) {l : List Int} (hl : fullT x l) : fullT t l := by
  have sel : ∀ (p : B → Bool), (∀ b c, posB b = posB c → p b = p c) → sumSel p t.bs l = sumSel p x.bs l := fun p hp => sumSel_pos p hp _ _ l h.pos.symm
  refine ⟨by rw [hl.len, h.nb], fun i b hb => ?_, fun i s hs _ => ?_, fun i s hs _ => ?_⟩
  · have hlt := (List.getElem?_eq_some_iff.1 hb).1
    have hx : x.bs[i]? = some (x.bs[i]'(by rw [h.nb]; exact hlt)) := List.getElem?_eq_getElem _
    have h1 := h.word i b _ hb hx
    have h2 := hl.word i _ hx
    unfold words at *
    simp only at *
    omega
  · have hlt := (List.getElem?_eq_some_iff.1 hs).1
    have hx : x.hs[i]? = some (x.hs[i]'(by rw [h.nh]; exact hlt)) := List.getElem?_eq_getElem _
    have h1 := h.hut i s _ hs hx
    have h2 := Truth.hutF hl i _ hx
    rw [← sel _ (fun b c e => by have : b.hut = c.hut := congrArg Prod.fst e; rw [this])] at h2
    omega
  · have hlt := (List.getElem?_eq_some_iff.1 hs).1
    have hx : x.vs[i]? = some (x.vs[i]'(by rw [h.nv]; exact hlt)) := List.getElem?_eq_getElem _
    have h1 := h.half i s _ hs hx
    have h2 := Truth.halfF hl i _ hx
    rw [← sel _ (fun b c e => by have : b.half = c.half := congrArg Prod.snd e; rw [this])] at h2
    omega

theorem Narrow.sub {t x : Tw} (h : Narrow t x) (ht : t.OK) (hx : x.OK) : ∀ l ∈ docA x, l ∈ docA t := fun l hl => (mem_docA ht).2 (h.truth ((mem_docA hx).1 hl))
theorem Narrow.count {t x : Tw} (h : Narrow t x) (ht : t.OK) (hx : x.OK) : (docA x).length ≤ (docA t).length := nodup_le (docA_nodup hx) (h.sub ht hx)
end Go.Proofs.Yticdacdflemoiaa
