/- Proved here: laws that the statements need (WzW4). No conditions but those that each law states. -/
import Derived.Test.YtnmmhkkmejbckaaGreatDoorYK
import Derived.Test.YtnmmhkkmejbckaaGreatDoorYI

set_option linter.unusedSimpArgs false
set_option linter.unusedVariables false

/- WatchCan. -/
namespace Go.Proofs.YtnmmhkkmejbckaaGreatDoor
open Go Go.Ab

theorem bit_val {a i : Nat} (ha : a < 9223372036854775808) : bits .and .i64 ((a : Int).fdiv (2 ^ (min i 64))) 1 = (((a.testBit i).toNat : Nat) : Int) := by
  rw [shr_nat ha, show (1 : Int) = ((1 : Nat) : Int) from rfl, bits_and (Nat.lt_of_le_of_lt (by rw [Nat.shiftRight_eq_div_pow]; exact Nat.div_le_self _ _) ha) (by omega), Nat.testBit_eq_decide_div_mod_eq, Nat.shiftRight_eq_div_pow]
  have : a / 2 ^ i &&& 1 = a / 2 ^ i % 2 := Nat.and_one_is_mod _
  rw [this]
  have h2 : a / 2 ^ i % 2 = 0 ∨ a / 2 ^ i % 2 = 1 := by omega
  rcases h2 with h | h <;> rw [h] <;> rfl
theorem size_pos : ∀ x : Nat, x < 64 → x ≠ 0 → size x ≠ 0 := by decide +kernel
theorem specCount_at {w : Wa} (hok : w.ok = true) : specCount w = (((waysN w.fits : Nat) : Int), 0) := by unfold specCount; rw [hok]; rfl
theorem specCan_at {w : Wa} (hok : w.ok = true) {i : Nat} (hi : i < w.fs.length) : specCan w i = if waysN w.fits = 0 then (0, 10) else ((((whoseL w.fits).getD i 0 : Nat) : Int), 0) := by
  unfold specCan; rw [hok, if_pos rfl, isF_at hi, if_pos rfl, Int.toNat_natCast]
theorem specSure_at {w : Wa} (hok : w.ok = true) : specSure w = if waysN w.fits = 0 then ([], 10) else (sureL w, 0) := by
  unfold specSure; rw [hok, if_pos rfl]
theorem specWhere_at {w : Wa} (hok : w.ok = true) {o : Nat} (ho : o < w.os.length) : specWhere w o = if waysN w.fits = 0 then (0, false, 10) else (((maskW (whereP w o) 4 : Nat) : Int), decide (0 < waysN (lessL w.fits o)), 0) := by
  unfold specWhere; rw [hok, if_pos rfl, isO_at ho, if_pos rfl, Int.toNat_natCast]
theorem specFits_in {w : Wa} (hok : w.ok = true) {i : Nat} {f : Fi} (hi : w.fs[i]? = some f) : specFits w i = (((fitN w.os f : Nat) : Int), 0) := by
  have h1 := (List.getElem?_eq_some_iff.1 hi).1
  have e : w.fits.getD i 0 = fitN w.os f := by
    unfold Wa.fits
    rw [List.getD_eq_getElem?_getD, List.getElem?_map, hi]
    rfl
  unfold specFits
  rw [hok, if_pos rfl, isF_at h1, if_pos rfl, Int.toNat_natCast, e]
theorem truT_len (fits : List Nat) : ∀ (l : Nat) (has : List Bool), (truT fits l has).length ≤ 5 ^ l
  | 0, _ => by simp [truT]
  | l + 1, has => by
    have hp : ∀ i : Nat, (if has.getD i true || !(fits.getD (fits.length - (l + 1)) 0).testBit i then [] else (truT fits l (has.set i true)).map (i :: ·)).length ≤ 5 ^ l := fun i => by
      split
      · simp
      · rw [List.length_map]; exact truT_len fits l _
    unfold truT
    have e : List.range 5 = [0, 1, 2, 3, 4] := rfl
    rw [e]
    simp only [List.flatMap_cons, List.flatMap_nil, List.length_append, List.length_nil]
    have h0 := hp 0
    have h1 := hp 1
    have h2 := hp 2
    have h3 := hp 3
    have h4 := hp 4
    rw [Nat.pow_succ]
    omega
theorem ways_bd {f : List Nat} (h : f.length ≤ 4) : waysN f ≤ 625 := by
  have h1 := truT_len f f.length has0
  have h2 : 5 ^ f.length ≤ 5 ^ 4 := Nat.pow_le_pow_right (by omega) h
  unfold waysN truths
  omega
def lsT (r : List Int × Int) : T := if r.2 = 0 then .slice 1 (r.1.map vi) else .lit (.slice none 0 0)
def M7 (w : Wa) (i : Nat) (st : St) : Prop := lk st.env 2 = .ptr 0 0 ∧ lk st.env 5 = .t (vi i) ∧ lk st.env 6 = .t (vi (specCan w i).1) ∧ lk st.env 7 = .t (vi (specCan w i).2) ∧ lk st.env 8 = .t (vi (specFits w i).1) ∧ lk st.env 10 = .t (vi (waysN w.fits : Nat)) ∧ lk st.env 12 = .t (lsT (specSure w)) ∧ st.σ = [.cells ((wa2 w).map .t)] ∧ st.df = [] ∧ st.k = 0
end Go.Proofs.YtnmmhkkmejbckaaGreatDoor
