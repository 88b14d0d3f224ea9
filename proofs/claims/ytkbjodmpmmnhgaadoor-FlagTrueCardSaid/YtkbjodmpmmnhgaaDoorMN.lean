/- Proved here: laws that the statements need (FlX0). No conditions but those that each law states. -/
import Derived.Test.YtkbjodmpmmnhgaaDoorMI

set_option linter.unusedSimpArgs false
set_option linter.unusedVariables false

/- Plain laws of what a flag tells. -/
namespace Go.Proofs.YtkbjodmpmmnhgaaDoor
open Go Go.Ab

theorem mod_nat (a b : Nat) : (a : Int).tmod b = ((a % b : Nat) : Int) := by rw [Int.tmod_eq_emod_of_nonneg (by omega)]; rfl
theorem fine_iff {f : Fl} (h : fineB f = true) : f.ok = true ∧ f.OK := by
  unfold fineB at h
  rw [Bool.and_eq_true] at h
  exact ⟨h.2, (Fl.ok_iff f).1 h.2⟩
theorem noT_ne {f : Fl} (h : noT f = false) : truths f ≠ [] := by unfold noT at h; simpa using h
theorem noT_nil {f : Fl} (h : noT f = true) : truths f = [] := by unfold noT at h; simpa using h

theorem hours_bit : ∀ b, b < 10 → ∀ a, a < b → ∀ i, i < 10 → (2 ^ b - 2 ^ a).testBit i = (decide (a ≤ i) && decide (i < b)) := by
  intro b hb a ha i hi
  have h : ((List.range 10).all fun b => (List.range b).all fun a => (List.range 10).all fun i => (2 ^ b - 2 ^ a).testBit i == (decide (a ≤ i) && decide (i < b))) = true := by decide +kernel
  have h1 := List.all_eq_true.1 h b (List.mem_range.2 hb)
  have h2 := List.all_eq_true.1 h1 a (List.mem_range.2 ha)
  have h3 := List.all_eq_true.1 h2 i (List.mem_range.2 hi)
  exact eq_of_beq h3
theorem mask_hours {p : Nat → Bool} {n a b : Nat} (hn : n ≤ 9) (hab : a < b) (hb : b ≤ n) : maskOf p n &&& (2 ^ b - 2 ^ a) ≠ 0 ↔ ∃ i, a ≤ i ∧ i < b ∧ p i = true := by
  constructor
  · intro h
    obtain ⟨i, hi⟩ := Nat.exists_testBit_of_ne_zero h
    rw [Nat.testBit_and, maskOf_bit, Bool.and_eq_true, Bool.and_eq_true, decide_eq_true_eq] at hi
    obtain ⟨⟨h1, h2⟩, h3⟩ := hi
    rw [hours_bit b (by omega) a hab i (by omega), Bool.and_eq_true, decide_eq_true_eq, decide_eq_true_eq] at h3
    exact ⟨i, h3.1, h3.2, h2⟩
  · rintro ⟨i, h1, h2, h3⟩ h
    have : (maskOf p n &&& (2 ^ b - 2 ^ a)).testBit i = true := by
      rw [Nat.testBit_and, maskOf_bit, hours_bit b (by omega) a hab i (by omega), h3]
      simp
      omega
    rw [h] at this
    simp at this

/-- In a truth, is the flag up in one of the hours? -/
def UpIn (f : Fl) (a b : Nat) (ks : List Nat) : Prop := ∃ i, a ≤ i ∧ i < b ∧ upAt f ks i = true
theorem upN_pos (f : Fl) (a b : Nat) (ks : List Nat) : 0 < upN f a b ks ↔ UpIn f a b ks := by
  unfold upN UpIn
  rw [upC_pos]
  constructor
  · rintro ⟨i, h1, h2, h3⟩
    refine ⟨i, by omega, by omega, ?_⟩
    unfold upAt
    rw [List.getD_eq_getElem?_getD, h1]
    rfl
  · rintro ⟨i, h1, h2, h3⟩
    refine ⟨i, ?_, by omega, by omega⟩
    unfold upAt at h3
    rw [List.getD_eq_getElem?_getD] at h3
    cases hg : (ups f ks)[i]? with
    | none => rw [hg] at h3; cases h3
    | some u => rw [hg, Option.getD_some] at h3; rw [h3]
theorem isR_nat {f : Fl} {a b : Nat} (hab : a < b) (hb : b ≤ f.hs.length) : f.isR a b = true := by
  unfold Fl.isR wI
  rw [Bool.and_eq_true, isH_iff]
  simp
  omega
theorem under_spec {f : Fl} (hf : f.OK) (hT : noT f = false) {a b : Nat} (hab : a < b) (hb : b ≤ f.hs.length) :
    ∃ u : Int, specUnder f a b = (u, 0) ∧ (u = 2 ∨ u = 1 ∨ u = 0) ∧ (u = 2 ↔ ∀ ks ∈ truths f, UpIn f a b ks) ∧ (u = 0 ↔ ∀ ks ∈ truths f, ¬ UpIn f a b ks) := by
  have hok := (Fl.ok_iff f).2 hf
  have hT' := noT_ne hT
  cases hs : hullU f a b with
  | none =>
    unfold hullU at hs
    rw [hullO_none] at hs
    exact absurd (List.map_eq_nil_iff.1 hs) hT'
  | some s =>
    refine ⟨underR s, by simp only [specUnder, hok, isR_nat hab hb, hs]; rfl, ?_, ?_, ?_⟩
    · unfold underR; split
      · exact .inl rfl
      · split
        · exact .inr (.inr rfl)
        · exact .inr (.inl rfl)
    all_goals
      unfold hullU at hs
      obtain ⟨h1, h2, h3⟩ := hullO_spec hs
      have e1 : s.1 > 0 ↔ ∀ ks ∈ truths f, UpIn f a b ks := by
        constructor
        · intro h ks hks
          have := h3 _ (List.mem_map_of_mem hks)
          exact (upN_pos f a b ks).1 (by omega)
        · intro h
          obtain ⟨ks, hks, e⟩ := List.mem_map.1 h1
          have := (upN_pos f a b ks).2 (h ks hks)
          omega
      have e2 : s.2 = 0 ↔ ∀ ks ∈ truths f, ¬ UpIn f a b ks := by
        constructor
        · intro h ks hks
          have := h3 _ (List.mem_map_of_mem hks)
          rw [← upN_pos]
          omega
        · intro h
          obtain ⟨ks, hks, e⟩ := List.mem_map.1 h2
          have := h ks hks
          rw [← upN_pos] at this
          omega
      have e3 := (h3 _ h2).1
      unfold underR
    · rw [← e1]; split <;> (try split) <;> omega
    · rw [← e2]; split <;> (try split) <;> omega
theorem sure_all {f : Fl} {h : Nat} : sure f h = true ↔ ∀ ks ∈ truths f, upAt f ks h = true := by unfold sure; rw [List.all_eq_true]
theorem perh_any {f : Fl} {h : Nat} : perh f h = true ↔ ∃ ks ∈ truths f, upAt f ks h = true := by unfold perh; rw [List.any_eq_true]
theorem surely_up {f : Fl} {a b : Nat} (h : ∃ i, a ≤ i ∧ i < b ∧ sure f i = true) : ∀ ks ∈ truths f, UpIn f a b ks := by
  obtain ⟨i, h1, h2, h3⟩ := h
  exact fun ks hks => ⟨i, h1, h2, sure_all.1 h3 ks hks⟩
theorem perhaps_up {f : Fl} {a b : Nat} : (∃ i, a ≤ i ∧ i < b ∧ perh f i = true) ↔ ¬ ∀ ks ∈ truths f, ¬ UpIn f a b ks := by
  constructor
  · rintro ⟨i, h1, h2, h3⟩ h
    obtain ⟨ks, hks, h4⟩ := perh_any.1 h3
    exact h ks hks ⟨i, h1, h2, h4⟩
  · intro h
    simp only [Classical.not_forall, Classical.not_not] at h
    obtain ⟨ks, hks, i, h1, h2, h3⟩ := h
    exact ⟨i, h1, h2, perh_any.2 ⟨ks, hks, h3⟩⟩
theorem surely_one {f : Fl} {a : Nat} (h : ∀ ks ∈ truths f, UpIn f a (a + 1) ks) : sure f a = true := by
  rw [sure_all]
  intro ks hks
  obtain ⟨i, h1, h2, h3⟩ := h ks hks
  rwa [show i = a by omega] at h3
theorem UpIn.more {f : Fl} {a b b' : Nat} {ks : List Nat} (h : UpIn f a b ks) (hb : b ≤ b') : UpIn f a b' ks := by
  obtain ⟨i, h1, h2, h3⟩ := h
  exact ⟨i, h1, by omega, h3⟩
/-! ### The same seen in another order -/
def withS (f : Fl) (xs : List Sn) : Fl := { f with ss := xs }
theorem kAcc_withS (f : Fl) (xs : List Sn) (lo : Int) : ∀ j, kAcc (withS f xs) lo j = kAcc f lo j
  | 0 => rfl
  | j + 1 => by simp only [kAcc, kAcc_withS f xs lo j]; rfl
theorem Kf_withS (f : Fl) (xs : List Sn) : Kf (withS f xs) = Kf f := by
  funext i
  unfold Kf kindsN
  simp only [kAcc_withS]
  rfl
theorem kls_withS (f : Fl) (xs : List Sn) : ∀ l h, kls (withS f xs) l h = kls f l h
  | 0, _ => rfl
  | l + 1, h => by simp only [kls, Kf_withS, kls_withS f xs l]
theorem truths_withS (f : Fl) (xs : List Sn) : truths (withS f xs) = (rows f).filter (right f xs) := by
  unfold truths rows
  rw [kls_withS]
  rfl
theorem truths_same (f : Fl) (xs : List Sn) (h : ∀ s, s ∈ xs ↔ s ∈ f.ss) : truths (withS f xs) = truths f := by
  rw [truths_withS]
  unfold truths
  refine List.filter_congr fun ks _ => ?_
  unfold right
  rw [Bool.eq_iff_iff, List.all_eq_true, List.all_eq_true]
  exact ⟨fun h1 s hs => h1 s ((h s).2 hs), fun h1 s hs => h1 s ((h s).1 hs)⟩
theorem withS_OK {f : Fl} (hf : f.OK) {xs : List Sn} (hl : xs.length ≤ 8) (h : ∀ s ∈ xs, 0 ≤ s.h ∧ s.h < f.hs.length) : (withS f xs).OK :=
  ⟨hf.low, hf.lh, hf.high, hf.quiet, hf.nh, hl, hf.hs, h⟩
end Go.Proofs.YtkbjodmpmmnhgaaDoor
