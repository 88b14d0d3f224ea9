/- Proved here: laws that the statements need (TwS3, TwS4). No conditions but those that each law states. -/
import Derived.Test.YticdacdflemoiaaLG
import Derived.Test.YticdacdflemoiaaLB
import Derived.Test.YticdacdflemoiaaLE

set_option linter.unusedSimpArgs false
set_option linter.unusedVariables false

/- Fewest, Search and Clash: what the program tells is what the document does. Plain laws. -/
namespace Go.Proofs.Yticdacdflemoiaa
open Go Go.Ab

/-! ### The best of the first numbers -/
def BestAt (g : Nat → Int × Bool) (k : Nat) : Option (Nat × Int) → Prop
  | none => ∀ y < k, (g y).2 = false
  | some (y, c) => y < k ∧ (g y).2 = true ∧ c = (g y).1 ∧ ∀ y' < k, (g y').2 = true → c < (g y').1 ∨ (c = (g y').1 ∧ y ≤ y')

theorem bestAt (g : Nat → Int × Bool) : ∀ k, BestAt g k (bestL g (List.range k))
  | 0 => by intro y hy; omega
  | k + 1 => by
    have ih := bestAt g k
    have e : bestL g (List.range (k + 1)) = bestStep g (bestL g (List.range k)) k := by
      unfold bestL
      rw [List.range_succ, List.foldl_append]
      rfl
    rw [e]
    generalize bestL g (List.range k) = acc at *
    unfold bestStep
    cases hk : (g k).2
    · simp only [Bool.false_eq_true, if_false]
      cases acc with
      | none =>
        intro y hy
        rcases Nat.lt_succ_iff_lt_or_eq.1 hy with h | h
        · exact ih y h
        · subst h; exact hk
      | some p =>
        obtain ⟨y, c⟩ := p
        obtain ⟨h1, h2, h3, h4⟩ := ih
        refine ⟨by omega, h2, h3, fun y' hy' ho => ?_⟩
        rcases Nat.lt_succ_iff_lt_or_eq.1 hy' with h | h
        · exact h4 y' h ho
        · subst h; rw [hk] at ho; exact absurd ho (by simp)
    · simp only [if_true]
      cases acc with
      | none =>
        refine ⟨by omega, hk, rfl, fun y' hy' ho => ?_⟩
        rcases Nat.lt_succ_iff_lt_or_eq.1 hy' with h | h
        · rw [ih y' h] at ho; exact absurd ho (by simp)
        · subst h; exact .inr ⟨rfl, Nat.le_refl _⟩
      | some p =>
        obtain ⟨y, c⟩ := p
        obtain ⟨h1, h2, h3, h4⟩ := ih
        simp only
        split
        · rename_i hlt
          refine ⟨by omega, hk, rfl, fun y' hy' ho => ?_⟩
          rcases Nat.lt_succ_iff_lt_or_eq.1 hy' with h | h
          · rcases h4 y' h ho with h | h
            · exact .inl (by omega)
            · exact .inl (by omega)
          · subst h; exact .inr ⟨rfl, Nat.le_refl _⟩
        · rename_i hge
          refine ⟨by omega, h2, h3, fun y' hy' ho => ?_⟩
          rcases Nat.lt_succ_iff_lt_or_eq.1 hy' with h | h
          · exact h4 y' h ho
          · subst h
            rcases Int.lt_or_eq_of_le (Int.not_lt.1 hge) with h | h
            · exact .inl h
            · exact .inr ⟨h, by omega⟩

/-! ### Fewest -/
theorem testBit_maskOf (p : Nat → Bool) : ∀ k i, (maskOf p k).testBit i = (decide (i < k) && p i)
  | 0, i => by simp [maskOf]
  | k + 1, i => by
    have ih := testBit_maskOf p k i
    simp only [maskOf]
    by_cases hik : i = k
    · subst hik
      have hlt := Nat.testBit_lt_two_pow (maskOf_lt p i)
      cases hp : p i
      · simp [hlt]
      · simp [hlt, Nat.testBit_two_pow_self]
    · have h2 : Nat.testBit (2 ^ k) i = false := Nat.testBit_two_pow_of_ne (by omega)
      have h3 : decide (i < k + 1) = decide (i < k) := by
        have : (i < k + 1) = (i < k) := by apply propext; omega
        simp only [this]
      rw [h3, ← ih]
      cases p k
      · simp
      · simp [h2]

theorem sub_size : ∀ S < 64, ∀ f < 64, f &&& S = f → size f ≤ size S ∧ (size f = size S → f = S) := by decide +kernel

theorem agrees_zero (z : Nat) (l : List Int) : agrees (-1) 0 z l = true ↔ ∀ i < l.length, z.testBit i = true → ¬ l.getD i 0 > 0 := by
  unfold agrees
  rw [List.all_eq_true]
  constructor
  · intro h i hi hz hx
    have hm : (l.getD i 0, i) ∈ l.zipIdx := by
      rw [List.mem_iff_getElem?]
      refine ⟨i, ?_⟩
      rw [List.getElem?_zipIdx, List.getD_eq_getElem?_getD, List.getElem?_eq_getElem hi]
      simp
    have := h _ hm
    have hd : decide (l.getD i 0 > 0) = true := decide_eq_true hx
    simp only [skipN, hz, hd, Bool.and_self, Bool.or_true, Bool.not_true] at this
    exact absurd this (by simp)
  · intro h p hp
    obtain ⟨_, hlt, hx⟩ := List.mem_zipIdx hp
    have hi : p.2 < l.length := by omega
    have hg : l.getD p.2 0 = p.1 := by
      rw [List.getD_eq_getElem?_getD, List.getElem?_eq_getElem hi, hx]
      simp
    have h1 : ((p.2 : Int) == -1) = false := by simp
    simp only [skipN, h1, Bool.false_and, Bool.false_or]
    cases hz : z.testBit p.2
    · rfl
    · have := h p.2 hi hz
      rw [hg] at this
      simp; omega

theorem agree_sub {l : List Int} {n S : Nat} (hl : l.length = n) (hS : S < 2 ^ n) : agrees (-1) 0 (2 ^ n - 1 - S) l = true ↔ someOf l &&& S = someOf l := by
  rw [agrees_zero]
  constructor
  · intro h
    apply Nat.eq_of_testBit_eq
    intro i
    rw [Nat.testBit_and]
    unfold someOf
    rw [testBit_maskOf]
    by_cases hi : i < l.length
    · have := h i hi
      rw [show 2 ^ n - 1 - S = 2 ^ n - (S + 1) by omega, Nat.testBit_two_pow_sub_succ hS] at this
      have hin : decide (i < n) = true := by simp; omega
      rw [hin, Bool.true_and] at this
      cases hs : S.testBit i
      · rw [hs] at this
        have := this rfl
        rw [decide_eq_false this]
        simp
      · simp
    · simp [hi]
  · intro h i hi hz
    rw [show 2 ^ n - 1 - S = 2 ^ n - (S + 1) by omega, Nat.testBit_two_pow_sub_succ hS] at hz
    have hs : S.testBit i = false := by
      cases hs : S.testBit i
      · rfl
      · rw [hs] at hz; simp at hz
    have ht : (someOf l).testBit i = false := by rw [← h, Nat.testBit_and, hs, Bool.and_false]
    unfold someOf at ht
    rw [testBit_maskOf, decide_eq_true hi, Bool.true_and] at ht
    exact of_decide_eq_false ht

theorem fewG_ok {t : Tw} (ht : t.OK) {S : Nat} (hS : S < 2 ^ t.bs.length) : (fewG t S).2 = true ↔ ∃ l ∈ docA t, someOf l &&& S = someOf l := by
  unfold fewG
  simp only [decide_eq_true_iff]
  unfold truthsA
  rw [truths_agree, show truthsC t (-1) 0 0 (allC t) = docA t from (docA_eq ht).symm, List.length_filter_pos_iff]
  constructor
  · rintro ⟨l, hl, h⟩
    exact ⟨l, hl, (agree_sub (docA_mem ht hl).1 hS).1 h⟩
  · rintro ⟨l, hl, h⟩
    exact ⟨l, hl, (agree_sub (docA_mem ht hl).1 hS).2 h⟩

theorem fewS_min : ∀ (l : List Nat) (b : Nat), (l.foldl fewS b = b ∨ l.foldl fewS b ∈ l) ∧ (∀ n, n = b ∨ n ∈ l → size (l.foldl fewS b) < size n ∨ (size (l.foldl fewS b) = size n ∧ l.foldl fewS b ≤ n))
  | [], b => ⟨.inl rfl, fun n h => by
      rcases h with rfl | h
      · exact .inr ⟨rfl, Nat.le_refl _⟩
      · simp at h⟩
  | a :: l, b => by
    simp only [List.foldl_cons]
    obtain ⟨h1, h2⟩ := fewS_min l (fewS b a)
    have hc : (fewS b a = a ∧ (size a < size b ∨ (size a = size b ∧ a < b))) ∨ (fewS b a = b ∧ (size b < size a ∨ (size b = size a ∧ b ≤ a))) := by
      unfold fewS
      cases hA : decide ((size a : Int) < size b)
      · cases hB : ((size a : Int) == size b)
        · right
          have : ¬ (size a : Int) < size b := by simpa using hA
          have : ¬ (size a : Int) = size b := by simpa using hB
          refine ⟨by simp, .inl (by omega)⟩
        · have hB' : (size a : Int) = size b := by simpa using hB
          cases hC : decide ((a : Int) < b)
          · have : ¬ (a : Int) < b := by simpa using hC
            right
            refine ⟨by simp, .inr (by omega)⟩
          · have : (a : Int) < b := by simpa using hC
            left
            refine ⟨by simp, .inr (by omega)⟩
      · have : (size a : Int) < size b := by simpa using hA
        left
        refine ⟨by simp, .inl (by omega)⟩
    refine ⟨?_, fun n hn => ?_⟩
    · rcases h1 with h | h
      · rw [h]
        rcases hc with ⟨e, _⟩ | ⟨e, _⟩
        · rw [e]; exact .inr (List.mem_cons_self ..)
        · rw [e]; exact .inl rfl
      · exact .inr (List.mem_cons_of_mem _ h)
    · have hb := h2 (fewS b a) (.inl rfl)
      have hn' : n = b ∨ n = a ∨ n ∈ l := by
        rcases hn with h | h
        · exact .inl h
        · exact .inr (List.mem_cons.1 h)
      rcases hn' with rfl | rfl | h
      · rcases hc with ⟨e, hc⟩ | ⟨e, hc⟩ <;> rw [e] at hb <;> rw [e] <;> omega
      · rcases hc with ⟨e, hc⟩ | ⟨e, hc⟩ <;> rw [e] at hb <;> rw [e] <;> omega
      · exact h2 n (.inr h)

theorem headD_memN {l : List Nat} (h : l ≠ []) : l.headD 0 ∈ l := by
  cases l with
  | nil => exact absurd rfl h
  | cons a l => exact List.mem_cons_self ..

theorem Fewest_eq (t : Tw) : specFewest t = docFewest t := by
  unfold specFewest docFewest
  cases hok : t.ok
  · rfl
  · have ht := (Tw.ok_iff t).1 hok
    have hnb := ht.nb
    have hp : 2 ^ t.bs.length ≤ 64 := Nat.le_trans (Nat.pow_le_pow_right (by omega) hnb) (by decide)
    have hsl : ∀ l ∈ docA t, someOf l < 2 ^ t.bs.length := fun l hl => by
      have := maskOf_lt (fun i => decide (l.getD i 0 > 0)) l.length
      rw [(docA_mem ht hl).1] at this
      unfold someOf
      rw [(docA_mem ht hl).1]
      exact this
    have hB := bestAt (fewG t) (2 ^ t.bs.length)
    simp only [if_true]
    cases hD : (docA t).isEmpty
    · have hne : docA t ≠ [] := by simpa using hD
      obtain ⟨l0, hl0⟩ := List.exists_mem_of_ne_nil _ hne
      generalize bestL (fewG t) (List.range (2 ^ t.bs.length)) = r at *
      obtain ⟨f1, f2⟩ := fewS_min ((docA t).map someOf) (((docA t).map someOf).headD 0)
      have hfm : fewD (docA t) ∈ (docA t).map someOf := by
        rcases f1 with h | h
        · unfold fewD; rw [h]; exact headD_memN (by simpa using hne)
        · exact h
      obtain ⟨lm, hlm, hem⟩ := List.mem_map.1 hfm
      cases r with
      | none =>
        have := hB (someOf l0) (hsl l0 hl0)
        have h2 := (fewG_ok ht (hsl l0 hl0)).2 ⟨l0, hl0, Nat.and_self _⟩
        rw [this] at h2
        exact absurd h2 (by simp)
      | some p =>
        obtain ⟨y, c⟩ := p
        obtain ⟨h1, h2, h3, h4⟩ := hB
        obtain ⟨l, hl, hsub⟩ := (fewG_ok ht h1).1 h2
        obtain ⟨s1, s2⟩ := sub_size y (by omega) (someOf l) (by have := hsl l hl; omega) hsub
        have hmin := f2 (someOf l) (.inr (List.mem_map.2 ⟨l, hl, rfl⟩))
        have hother := h4 (fewD (docA t)) (by rw [← hem]; exact hsl lm hlm) ((fewG_ok ht (by rw [← hem]; exact hsl lm hlm)).2 ⟨lm, hlm, by rw [hem]; exact Nat.and_self _⟩)
        have hc : c = ((size y : Nat) : Int) := h3
        have hg : (fewG t (fewD (docA t))).1 = ((size (fewD (docA t)) : Nat) : Int) := rfl
        rw [hg] at hother
        have hfd : fewD (docA t) = ((docA t).map someOf).foldl fewS (((docA t).map someOf).headD 0) := rfl
        rw [← hfd] at hmin
        have hsz : size (fewD (docA t)) = size y := by omega
        have hy : y = fewD (docA t) := by
          have e1 : size (someOf l) = size y := by omega
          have e2 := s2 e1
          have : fewD (docA t) ≤ someOf l := by omega
          omega
        subst hy
        rw [hc]
        rfl
    · have hnil : docA t = [] := by simpa using hD
      generalize bestL (fewG t) (List.range (2 ^ t.bs.length)) = r at *
      cases r with
      | none => rfl
      | some p =>
        obtain ⟨y, c⟩ := p
        obtain ⟨h1, h2, h3, h4⟩ := hB
        obtain ⟨l, hl, _⟩ := (fewG_ok ht h1).1 h2
        rw [hnil] at hl
        simp at hl
end Go.Proofs.Yticdacdflemoiaa

/- Search and Clash: what the program tells is what the document does. Plain laws. -/
namespace Go.Proofs.Yticdacdflemoiaa
open Go Go.Ab

/-! ### Search -/
theorem leftK_ge (ds : List (List Int)) (b : Nat) : ∀ k n, n < k → (manyD ds b n : Int) ≤ leftK ds b k
  | 0, n, h => by omega
  | k + 1, n, h => by
    simp only [leftK]
    rcases Nat.lt_succ_iff_lt_or_eq.1 h with h | h
    · have := leftK_ge ds b k n h; omega
    · subst h; omega
theorem leftK_is (ds : List (List Int)) (b : Nat) : ∀ k, leftK ds b k = 0 ∨ ∃ n < k, leftK ds b k = manyD ds b n
  | 0 => .inl rfl
  | k + 1 => by
    simp only [leftK]
    by_cases h : leftK ds b k ≤ manyD ds b k
    · exact .inr ⟨k, by omega, by omega⟩
    · rcases leftK_is ds b k with h2 | ⟨n, hn, h2⟩
      · exact .inl (by omega)
      · exact .inr ⟨n, by omega, by omega⟩

theorem waysN_many {t : Tw} (ht : t.OK) (n : Nat) (hn : n < t.bs.length) (k : Nat) : waysN t n 0 k = manyD (docA t) n k := by
  unfold waysN manyD
  rw [truthsA_one ht n hn, List.countP_eq_length_filter]

theorem mostW_eq {t : Tw} (ht : t.OK) {n : Nat} {b : B} (hb : t.bs[n]? = some b) : mostW t n = leftD (docA t) n := by
  have hn : n < t.bs.length := (List.getElem?_eq_some_iff.1 hb).1
  unfold mostW
  rw [hb]
  simp only
  generalize hL : ((canL b n (-1) 0 0).map (waysN t n 0)).filter (fun w => decide (0 < w)) = L
  have hmemL : ∀ w, w ∈ L ↔ (∃ k ∈ canL b n (-1) 0 0, waysN t n 0 k = w) ∧ 0 < w := by
    intro w
    rw [← hL, List.mem_filter, List.mem_map]
    simp
  have hcan : ∀ k ∈ canL b n (-1) 0 0, ∃ m < 5, k = ((m : Nat) : Int) := fun k hk => by
    have := canL_mem ht (List.mem_of_getElem? hb) hk
    exact ⟨k.toNat, by omega, by omega⟩
  have ge := foldlMax_le L 0
  have is := foldlMax_mem L 0
  have lge := leftK_ge (docA t) n 5
  have lis := leftK_is (docA t) n 5
  have le1 : L.foldl max 0 ≤ leftD (docA t) n := by
    rcases is with h | h
    · rw [h]; exact (leftK_le (docA t) n 5).1
    · obtain ⟨⟨k, hk, hw⟩, _⟩ := (hmemL _).1 h
      obtain ⟨m, hm, rfl⟩ := hcan k hk
      rw [waysN_many ht n hn] at hw
      rw [← hw]
      exact lge m hm
  have le2 : leftD (docA t) n ≤ L.foldl max 0 := by
    unfold leftD
    rcases lis with h | ⟨m, hm, h⟩
    · rw [h]; exact ge.1
    · rw [h]
      by_cases h0 : manyD (docA t) n m = 0
      · rw [h0]; exact ge.1
      · refine ge.2 _ ((hmemL _).2 ⟨⟨(m : Int), ?_, waysN_many ht n hn m⟩, by omega⟩)
        have hpos : 0 < manyD (docA t) n m := Nat.pos_of_ne_zero h0
        unfold manyD at hpos
        obtain ⟨l, hl, he⟩ := List.countP_pos_iff.1 hpos
        have : l.getD n 0 = (m : Int) := by simpa using he
        rw [← this]
        exact truth_word ht hb hl
  omega

theorem bestD_at (ds : List (List Int)) : ∀ k, 0 < k → bestD ds k < k ∧ ∀ y < k, leftD ds (bestD ds k) < leftD ds y ∨ (leftD ds (bestD ds k) = leftD ds y ∧ bestD ds k ≤ y)
  | 0, h => by omega
  | 1, _ => by
    have e : bestD ds 1 = 0 := by simp [bestD]
    rw [e]
    refine ⟨by omega, fun y hy => ?_⟩
    have : y = 0 := by omega
    subst this
    exact .inr ⟨rfl, Nat.le_refl _⟩
  | k + 2, _ => by
    obtain ⟨h1, h2⟩ := bestD_at ds (k + 1) (by omega)
    have e : bestD ds (k + 2) = if decide (leftD ds (k + 1) < leftD ds (bestD ds (k + 1))) then k + 1 else bestD ds (k + 1) := rfl
    rw [e]
    generalize bestD ds (k + 1) = b at *
    by_cases hlt : leftD ds (k + 1) < leftD ds b
    · rw [if_pos (by simpa using hlt)]
      refine ⟨by omega, fun y hy => ?_⟩
      by_cases hyk : y = k + 1
      · subst hyk; exact .inr ⟨rfl, Nat.le_refl _⟩
      · rcases h2 y (by omega) with h | h
        · exact .inl (by omega)
        · exact .inl (by omega)
    · rw [if_neg (by simpa using hlt)]
      refine ⟨by omega, fun y hy => ?_⟩
      by_cases hyk : y = k + 1
      · subst hyk
        by_cases heq : leftD ds b = leftD ds (k + 1)
        · exact .inr ⟨heq, by omega⟩
        · exact .inl (by omega)
      · exact h2 y (by omega)

theorem Search_eq (t : Tw) : specSearch t = docSearch t := by
  unfold specSearch docSearch
  cases hok : t.ok
  · rfl
  · have ht := (Tw.ok_iff t).1 hok
    rw [isT_eq ht]
    simp only [if_true]
    cases hD : (docA t).isEmpty
    · have hpos : 0 < (docA t).length := by
        have : docA t ≠ [] := by simpa using hD
        exact List.length_pos_iff.2 this
      have hfew : (docA t).length ≤ 5 ^ t.bs.length := extL_many ht _ _ t.bs.length [] (by simp)
      rw [← docA_eq ht]
      simp only [Bool.not_false, if_true, Bool.false_eq_true, if_false]
      by_cases hO : (docA t).length = 1
      · have h1 : (((docA t).length : Int) == 1) = true := by simp [hO]
        rw [if_neg (by omega), h1]
        rfl
      · have h1 : (((docA t).length : Int) == 1) = false := by simp; omega
        rw [if_pos (by omega), h1]
        simp only [Bool.false_eq_true, if_false]
        have hbp : 0 < t.bs.length := by
          rcases Nat.eq_zero_or_pos t.bs.length with h | h
          · rw [h] at hfew; omega
          · exact h
        have hB := bestAt (fun i => (mostW t i, true)) t.bs.length
        obtain ⟨d1, d2⟩ := bestD_at (docA t) t.bs.length hbp
        have hw : ∀ i, i < t.bs.length → mostW t i = leftD (docA t) i := fun i hi => mostW_eq ht (List.getElem?_eq_getElem hi)
        generalize bestL (fun i => (mostW t i, true)) (List.range t.bs.length) = r at *
        cases r with
        | none =>
          have := hB 0 hbp
          simp at this
        | some p =>
          obtain ⟨y, c⟩ := p
          obtain ⟨h1, _, h3, h4⟩ := hB
          simp only at h3 h4
          rw [hw y h1] at h3
          have a1 := h4 _ d1 trivial
          rw [hw _ d1] at a1
          have a2 := d2 y h1
          generalize bestD (docA t) t.bs.length = z at *
          have hyz : y = z := by omega
          subst hyz
          subst h3
          rfl
    · rfl

/-! ### Clash -/
theorem clashIn_eq (t : Tw) (x : Nat) (p : Nat × Nat) : ∀ k, clashIn t x p k = ((List.range k).map fun y => (x, y)).foldl (clashS t) p
  | 0 => rfl
  | k + 1 => by
    rw [clashIn, clashIn_eq t x p k, List.range_succ, List.map_append, List.foldl_append]
    simp only [List.map_cons, List.map_nil, List.foldl_cons, List.foldl_nil]
theorem clashOut_eq (t : Tw) (b : Nat) (p : Nat × Nat) : ∀ k, clashOut t b p k = (pairsL k b).foldl (clashS t) p
  | 0 => rfl
  | k + 1 => by rw [clashOut, clashOut_eq t b p k, clashIn_eq, pairsL_succ, List.foldl_append]

def foldR {α : Type} (g : α → Int × Bool) (p0 : α) (acc : Option (α × Int)) (p : α) : Prop := match acc with
  | none => p = p0
  | some (q, c) => p = q ∧ c = (g q).1

theorem foldR_fold {α : Type} (g : α → Int × Bool) (cl : α → α → α) (hcl : ∀ p q, cl p q = if (decide ((g q).1 < (g p).1) && (g q).2) = true then q else p) (p0 : α) : ∀ (l : List α) (acc : Option (α × Int)) (p : α), foldR g p0 acc p →
    (∀ q ∈ l, (g q).1 < (g p0).1 ∨ q = p0) → foldR g p0 (l.foldl (bestStep g) acc) (l.foldl cl p)
  | [], _, _, h, _ => h
  | q :: l, acc, p, h, hq => by
    simp only [List.foldl_cons]
    refine foldR_fold g cl hcl p0 l _ _ ?_ fun q' h' => hq q' (List.mem_cons_of_mem _ h')
    have hq0 := hq q (List.mem_cons_self ..)
    rw [hcl]
    unfold bestStep
    cases (g q).2
    · simp only [Bool.and_false, Bool.false_eq_true, if_false]
      exact h
    · simp only [Bool.and_true, if_true, decide_eq_true_iff]
      cases acc with
      | none =>
        have h : p = p0 := h
        subst h
        simp only
        by_cases hlt : (g q).1 < (g p).1
        · rw [if_pos hlt]; exact And.intro rfl rfl
        · rw [if_neg hlt]
          rcases hq0 with h | h
          · exact absurd h hlt
          · exact And.intro h.symm rfl
      | some r =>
        obtain ⟨q', c⟩ := r
        have h : p = q' ∧ c = (g q').1 := h
        obtain ⟨rfl, rfl⟩ := h
        simp only
        by_cases hlt : (g q).1 < (g p).1
        · rw [if_pos hlt, if_pos hlt]; exact And.intro rfl rfl
        · rw [if_neg hlt, if_neg hlt]; exact And.intro rfl rfl

theorem clashG_cost (t : Tw) (r : Nat × Nat) : (clashG t r).1 = ((size r.1 + size r.2 : Nat) : Int) := rfl
theorem clashG_ok {t : Tw} (ht : t.OK) (q : Nat × Nat) : (clashG t q).2 = (((docT t q.1 q.2).length : Int) == 0) := by
  unfold clashG
  rw [docT_eq ht]
  cases truthsC t (-1) 0 0 (cnts t q.1 q.2) with
  | nil => rfl
  | cons a l => simp; omega
theorem clashS_eq {t : Tw} (ht : t.OK) (p q : Nat × Nat) : clashS t p q = if (decide ((clashG t q).1 < (clashG t p).1) && (clashG t q).2) = true then q else p := by
  rw [clashG_ok ht, clashG_cost, clashG_cost]
  unfold clashS
  exact rfl

theorem size_full : ∀ a ≤ 3, ∀ x < 2 ^ a, size x < size (2 ^ a - 1) ∨ x = 2 ^ a - 1 := by decide +kernel

theorem cntsOf_all {hut : Bool} {l : List (Int × Int)} {a : Nat} {p : Cnt → Bool} (h : (cntsOf hut l (2 ^ l.length - 1)).all p = true) : (cntsOf hut l a).all p = true := by
  unfold cntsOf at *
  rw [List.all_map, List.all_filter, List.all_eq_true] at *
  intro x hx
  have hlt : x.2 < l.length := by have := (List.mem_zipIdx hx).2.1; omega
  have := h x hx
  rw [Nat.testBit_two_pow_sub_one, decide_eq_true hlt] at this
  simp only [Bool.not_true, Bool.false_or] at this
  rw [this, Bool.or_true]

theorem truth_fewer {t : Tw} {l : List Int} (h : l ∈ truthsA t (-1) 0 0) (a b : Nat) : l ∈ truthsC t (-1) 0 0 (cnts t a b) := by
  unfold truthsA truthsC at *
  obtain ⟨h1, h2⟩ := List.mem_filter.1 h
  refine List.mem_filter.2 ⟨h1, ?_⟩
  unfold allC cnts at h2
  unfold cnts
  rw [List.all_append, Bool.and_eq_true] at *
  exact ⟨cntsOf_all h2.1, cntsOf_all h2.2⟩

theorem bestL_none {α : Type} (g : α → Int × Bool) : ∀ (l : List α), (∀ y ∈ l, (g y).2 = false) → bestL g l = none := by
  intro l
  unfold bestL
  generalize hz : (none : Option (α × Int)) = z
  induction l generalizing z with
  | nil => intro _; rfl
  | cons a l ih =>
    intro h
    simp only [List.foldl_cons]
    have : bestStep g z a = z := by unfold bestStep; rw [h a (List.mem_cons_self ..)]; simp
    rw [this]
    exact ih z hz fun y hy => h y (List.mem_cons_of_mem _ hy)

theorem bestL_some {α : Type} (g : α → Int × Bool) (a : α) (h : (g a).2 = true) : ∀ (l : List α) (acc : Option (α × Int)), (a ∈ l ∨ acc ≠ none) → l.foldl (bestStep g) acc ≠ none
  | [], acc, h' => by
    rcases h' with h' | h'
    · simp at h'
    · exact h'
  | b :: l, acc, h' => by
    simp only [List.foldl_cons]
    refine bestL_some g a h l _ ?_
    have keep : acc ≠ none → bestStep g acc b ≠ none := by
      intro hn
      unfold bestStep
      cases acc with
      | none => exact absurd rfl hn
      | some r =>
        obtain ⟨x, n⟩ := r
        simp only
        split
        · split <;> simp
        · simp
    rcases h' with h' | h'
    · rcases List.mem_cons.1 h' with rfl | h'
      · right
        unfold bestStep
        rw [h]
        simp only [if_true]
        cases acc with
        | none => simp
        | some r =>
          obtain ⟨x, n⟩ := r
          simp only
          split <;> simp
      · exact .inl h'
    · exact .inr (keep h')

theorem Clash_eq (t : Tw) : specClash t = docClash t := by
  unfold specClash docClash
  cases hok : t.ok
  · rfl
  · have ht := (Tw.ok_iff t).1 hok
    simp only [if_true]
    cases hD : (docA t).isEmpty
    · have hne : docA t ≠ [] := by simpa using hD
      obtain ⟨l0, hl0⟩ := List.exists_mem_of_ne_nil _ hne
      rw [docA_eq ht] at hl0
      rw [bestL_none]
      · simp
      · intro q _
        unfold clashG
        simp only
        have := truth_fewer hl0 q.1 q.2
        cases hT : truthsC t (-1) 0 0 (cnts t q.1 q.2) with
        | nil => rw [hT] at this; simp at this
        | cons a l => rfl
    · have hnil : docA t = [] := by simpa using hD
      have hp0 : (2 ^ t.hs.length - 1, 2 ^ t.vs.length - 1) ∈ pairsL (2 ^ t.hs.length) (2 ^ t.vs.length) := by
        have q1 := Nat.two_pow_pos t.hs.length
        have q2 := Nat.two_pow_pos t.vs.length
        unfold pairsL
        refine List.mem_flatMap.2 ⟨2 ^ t.hs.length - 1, List.mem_range.2 (by omega), List.mem_map.2 ⟨2 ^ t.vs.length - 1, List.mem_range.2 (by omega), rfl⟩⟩
      have hg0 : (clashG t (2 ^ t.hs.length - 1, 2 ^ t.vs.length - 1)).2 = true := by
        have : truthsA t (-1) 0 0 = [] := by rw [← docA_eq ht]; exact hnil
        unfold clashG
        simp only
        rw [show truthsC t (-1) 0 0 (cnts t (2 ^ t.hs.length - 1) (2 ^ t.vs.length - 1)) = truthsA t (-1) 0 0 from rfl, this]
        rfl
      have hsome := bestL_some (clashG t) _ hg0 (pairsL (2 ^ t.hs.length) (2 ^ t.vs.length)) none (.inl hp0)
      have hR := foldR_fold (clashG t) (clashS t) (clashS_eq ht) (2 ^ t.hs.length - 1, 2 ^ t.vs.length - 1) (pairsL (2 ^ t.hs.length) (2 ^ t.vs.length)) none _ rfl fun q hq => by
        unfold pairsL at hq
        obtain ⟨x, hx, hq⟩ := List.mem_flatMap.1 hq
        obtain ⟨y, hy, rfl⟩ := List.mem_map.1 hq
        have s1 := size_full t.hs.length ht.nh x (List.mem_range.1 hx)
        have s2 := size_full t.vs.length ht.nv y (List.mem_range.1 hy)
        rw [clashG_cost, clashG_cost]
        simp only
        rcases s1 with s1 | s1 <;> rcases s2 with s2 | s2
        · exact .inl (by omega)
        · subst s2; exact .inl (by omega)
        · subst s1; exact .inl (by omega)
        · subst s1; subst s2; exact .inr rfl
      have hcd : clashD t = (pairsL (2 ^ t.hs.length) (2 ^ t.vs.length)).foldl (clashS t) (2 ^ t.hs.length - 1, 2 ^ t.vs.length - 1) := clashOut_eq t _ _ _
      rw [← hcd] at hR
      have hbl : bestL (clashG t) (pairsL (2 ^ t.hs.length) (2 ^ t.vs.length)) = (pairsL (2 ^ t.hs.length) (2 ^ t.vs.length)).foldl (bestStep (clashG t)) none := rfl
      rw [← hbl] at hR hsome
      generalize bestL (clashG t) (pairsL (2 ^ t.hs.length) (2 ^ t.vs.length)) = r at *
      cases r with
      | none => exact absurd rfl hsome
      | some r =>
        obtain ⟨q, c⟩ := r
        have h1 : clashD t = q := hR.1
        rw [h1]
        rfl
end Go.Proofs.Yticdacdflemoiaa
