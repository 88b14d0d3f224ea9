/- Proved here: laws that the statements need (FlXA). No conditions but those that each law states. -/
import Derived.Test.YtkbjodmpmmnhgaaDoorMU
import Derived.Test.YtkbjodmpmmnhgaaDoorMV

set_option linter.unusedSimpArgs false
set_option linter.unusedVariables false

/- FlagEnds: plain laws. -/
namespace Go.Proofs.YtkbjodmpmmnhgaaDoor
open Go Go.Ab

theorem size_or : ∀ k, k < 9 → ∀ m, m < 2 ^ k → size (m ||| 2 ^ k) = size m + 1 := by
  intro k hk m hm
  have h : ((List.range 9).all fun k => (List.range (2 ^ k)).all fun m => decide (size (m ||| 2 ^ k) = size m + 1)) = true := by decide +kernel
  exact of_decide_eq_true (List.all_eq_true.1 (List.all_eq_true.1 h k (List.mem_range.2 hk)) m (List.mem_range.2 hm))
/-- The set of the hours in which the flag is up. -/
abbrev upM (f : Fl) (ks : List Nat) : Nat := maskOf (upAt f ks) f.hs.length
theorem size_mask (f : Fl) (ks : List Nat) : ∀ j, j ≤ 9 → size (maskOf (upAt f ks) j) = upN f 0 j ks
  | 0, _ => by
    have : upC ((0 : Nat) : Int) ((0 : Nat) : Int) 0 (ups f ks) = 0 := upC_empty _ _ _
    show size 0 = upC 0 0 0 (ups f ks)
    rw [show size 0 = 0 from rfl]
    exact this.symm
  | j + 1, hj => by
    have ih := size_mask f ks j (by omega)
    have h := upC_succ 0 j (by omega) 0 (ups f ks)
    rw [Nat.sub_zero] at h
    show size (if upAt f ks j then maskOf (upAt f ks) j ||| 2 ^ j else maskOf (upAt f ks) j) = upC 0 ((j + 1 : Nat) : Int) 0 (ups f ks)
    have h0 : ((0 : Nat) : Int) = 0 := rfl
    rw [h0] at h
    rw [h]
    cases hu : upAt f ks j
    · rw [if_neg (by simp), if_neg (by intro h; have := h.2; unfold upAt at hu; rw [hu] at this; cases this), ih]
      rfl
    · rw [if_pos rfl, if_pos ⟨by omega, by unfold upAt at hu; exact hu⟩, size_or j (by omega) _ (maskOf_lt _ _), ih]
/-- In a truth the flag is up in one of the hours, told by the set. -/
theorem upIn_mask (f : Fl) (hf : f.OK) {a b : Nat} (hab : a < b) (hb : b ≤ f.hs.length) (ks : List Nat) : upM f ks &&& (2 ^ b - 2 ^ a) ≠ 0 ↔ UpIn f a b ks :=
  mask_hours hf.nh hab hb
/-- Meet and join of the sets. -/
def meetM (f : Fl) (l : List (List Nat)) : Nat := maskOf (fun h => l.all fun ks => upAt f ks h) f.hs.length
def joinM (f : Fl) (l : List (List Nat)) : Nat := maskOf (fun h => l.any fun ks => upAt f ks h) f.hs.length
theorem meetM_nil (f : Fl) : ∀ n, maskOf (fun h => ([] : List (List Nat)).all fun ks => upAt f ks h) n = 2 ^ n - 1 := fun n => by
  apply Nat.eq_of_testBit_eq
  intro i
  rw [maskOf_bit, Nat.testBit_two_pow_sub_one]
  simp
theorem meetM_snoc (f : Fl) (l : List (List Nat)) (ks : List Nat) : meetM f (l ++ [ks]) = meetM f l &&& upM f ks := by
  apply Nat.eq_of_testBit_eq
  intro i
  unfold meetM upM
  rw [Nat.testBit_and, maskOf_bit, maskOf_bit, maskOf_bit]
  simp only [List.all_append, List.all_cons, List.all_nil, Bool.and_true]
  cases decide (i < f.hs.length) <;> simp
theorem joinM_snoc (f : Fl) (l : List (List Nat)) (ks : List Nat) : joinM f (l ++ [ks]) = joinM f l ||| upM f ks := by
  apply Nat.eq_of_testBit_eq
  intro i
  unfold joinM upM
  rw [Nat.testBit_or, maskOf_bit, maskOf_bit, maskOf_bit]
  simp only [List.any_append, List.any_cons, List.any_nil, Bool.or_false]
  cases decide (i < f.hs.length) <;> simp
end Go.Proofs.YtkbjodmpmmnhgaaDoor
