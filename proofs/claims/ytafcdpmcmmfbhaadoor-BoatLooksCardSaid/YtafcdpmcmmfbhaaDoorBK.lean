/- Proved here: laws that the statements need (BoX3). No conditions but those that each law states. -/
import Derived.Test.YtafcdpmcmmfbhaaDoorBI

set_option linter.unusedSimpArgs false
set_option linter.unusedVariables false

/- Plain laws: places of which there is one alone; when boats met. -/
namespace Go.Proofs.YtafcdpmcmmfbhaaDoor
open Go Go.Ab

theorem pop_one : ∀ (k n j : Nat), n.testBit j = true → j < k → 1 ≤ popF k n
  | 0, _, _, _, h => by omega
  | k + 1, n, 0, h, _ => by
    simp only [popF]
    rw [Nat.testBit_zero] at h
    have := of_decide_eq_true h
    omega
  | k + 1, n, j + 1, h, hj => by
    simp only [popF]
    rw [Nat.testBit_succ] at h
    have := pop_one k (n / 2) j h (by omega)
    omega
theorem pop_two : ∀ (k n i j : Nat), i < j → n.testBit i = true → n.testBit j = true → j < k → 2 ≤ popF k n
  | 0, _, _, _, _, _, _, h => by omega
  | k + 1, n, 0, j + 1, _, h, h', hj => by
    simp only [popF]
    rw [Nat.testBit_zero] at h
    rw [Nat.testBit_succ] at h'
    have := of_decide_eq_true h
    have := pop_one k (n / 2) j h' (by omega)
    omega
  | k + 1, n, i + 1, j + 1, hij, h, h', hj => by
    simp only [popF]
    rw [Nat.testBit_succ] at h h'
    have := pop_two k (n / 2) i j (by omega) h h' (by omega)
    omega
  | _ + 1, _, 0, 0, h, _, _, _ => by omega
  | _ + 1, _, _ + 1, 0, h, _, _, _ => by omega
theorem pop_zero : ∀ k : Nat, popF k 0 = 0
  | 0 => rfl
  | k + 1 => by simp only [popF]; rw [Nat.zero_div, pop_zero k]
theorem pop_pow : ∀ (k p : Nat), p < k → popF k (2 ^ p) = 1
  | 0, _, h => by omega
  | k + 1, 0, _ => by simp only [popF, Nat.pow_zero]; rw [show (1 : Nat) / 2 = 0 from rfl, pop_zero k]
  | k + 1, p + 1, h => by
    simp only [popF]
    have := pop_pow k p (by omega)
    rw [Nat.pow_succ, Nat.mul_mod_left, Nat.mul_div_cancel _ (by decide), this]
/-- A place alone: what Who asks, and what the law does. -/
theorem alone_iff {c p : Nat} (hc : c < 2 ^ 48) (hp : p < 48) : (c.testBit p && decide (size c = 1)) = decide (c = 2 ^ p) := by
  rw [Bool.eq_iff_iff, Bool.and_eq_true, decide_eq_true_eq, decide_eq_true_eq]
  constructor
  · rintro ⟨h1, h2⟩
    apply Nat.eq_of_testBit_eq
    intro i
    rw [Nat.testBit_two_pow]
    by_cases e : p = i
    · subst e; rw [h1]; simp
    · rw [decide_eq_false e, ← Bool.not_eq_true]
      intro h
      have hi : i < 48 := by
        apply Classical.byContradiction
        intro g
        rw [Nat.testBit_lt_two_pow (Nat.lt_of_lt_of_le hc (Nat.pow_le_pow_right (by decide) (by omega)))] at h
        cases h
      unfold size at h2
      rcases Nat.lt_or_ge p i with g | g
      · have := pop_two 64 c p i g h1 h (by omega); omega
      · have := pop_two 64 c i p (by omega) h h1 (by omega); omega
  · rintro rfl
    exact ⟨by rw [Nat.testBit_two_pow]; simp, pop_pow 64 p (by omega)⟩

theorem specMet_ok {b : Bo} (hb : b.OK) {i j : Nat} (hi : i < b.seen.length) (hj : j < b.seen.length) : specMet b i j = if isT b i && isT b j then spP (metR b i j) else (0, 10) := by
  have h1 : b.isBoat i = true := isBoat_iff.2 ⟨by omega, by omega⟩
  have h2 : b.isBoat j = true := isBoat_iff.2 ⟨by omega, by omega⟩
  unfold specMet
  rw [(b.ok_iff).2 hb, h1, h2, Int.toNat_natCast, Int.toNat_natCast]; rfl
theorem specWho_ok {b : Bo} (hb : b.OK) {m p : Nat} (hm : m ≤ b.L) (hp : p < b.N) : specWho b m p = if allCan b then (((sureW b m p b.seen.length : Nat) : Int), ((canW b m p b.seen.length : Nat) : Int), (0 : Int)) else (0, 0, 10) := by
  have h1 : b.isMinute m = true := isMinute_iff.2 ⟨by omega, by have := hb.L; omega⟩
  have h2 : wI (p : Int) 0 (b.wide * b.deep - 1) = true := wI_iff.2 ⟨by omega, by have := hb.N; omega⟩
  unfold specWho
  rw [(b.ok_iff).2 hb, h1, h2, Int.toNat_natCast, Int.toNat_natCast]; rfl
/-- What is told of the minute in which boats met. -/
theorem metR_spec (b : Bo) (i j : Nat) : match metR b i j with
    | some m => m ≤ b.L ∧ canM b i m &&& canM b j m ≠ 0 ∧ ∀ k < m, canM b i k &&& canM b j k = 0
    | none => ∀ k ≤ b.L, canM b i k &&& canM b j k = 0 := by
  unfold metR
  cases hf : (List.range (b.L + 1)).find? fun m => !((canAt b (plainQ b i) m &&& canAt b (plainQ b j) m) == 0) with
  | none =>
    intro k hk
    have := List.find?_eq_none.1 hf k (List.mem_range.2 (by omega))
    simp only [Bool.not_eq_true, Bool.not_eq_false', beq_iff_eq] at this
    exact this
  | some n =>
    obtain ⟨h1, m, hm, e, h3⟩ := List.find?_eq_some_iff_getElem.1 hf
    simp only [List.length_range] at hm
    rw [List.getElem_range] at e
    subst e
    have h2 : ¬ (canAt b (plainQ b i) m &&& canAt b (plainQ b j) m = 0) := by simpa using h1
    refine ⟨by omega, h2, fun k hk => ?_⟩
    have := h3 k hk
    rw [List.getElem_range] at this
    simp only [Bool.not_not, beq_iff_eq] at this
    exact this
theorem met_self {b : Bo} (hb : b.OK) {i : Nat} (hT : isT b i = true) : metR b i i = some 0 := by
  have h0 : canM b i 0 ≠ 0 := (canAt_ne0 hb (plainQ b i) (Nat.zero_le _)).2 ((canQ_iff hb _).1 hT)
  have hs := metR_spec b i i
  cases hr : metR b i i with
  | none =>
    rw [hr] at hs
    exact absurd (by have := hs 0 (Nat.zero_le _); rwa [Nat.and_self] at this) h0
  | some m =>
    rw [hr] at hs
    cases m with
    | zero => rfl
    | succ m => exact absurd (by have := hs.2.2 0 (by omega); rwa [Nat.and_self] at this) h0
end Go.Proofs.YtafcdpmcmmfbhaaDoor
