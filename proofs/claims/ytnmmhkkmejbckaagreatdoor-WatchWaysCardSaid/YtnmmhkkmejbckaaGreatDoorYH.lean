/- Proved here: laws that the statements need (WzU3). No conditions but those that each law states. -/
import Derived.Test.YtnmmhkkmejbckaaGreatDoorYG

set_option linter.unusedSimpArgs false
set_option linter.unusedVariables false

/- WatchShows. -/
namespace Go.Proofs.YtnmmhkkmejbckaaGreatDoor
open Go Go.Ab

/-! ### What is told is what there is, in order, once each -/
def ShowP (L S : List Int) : Prop := (∀ x, x ∈ S ↔ x ∈ L) ∧ S.Pairwise (· < ·) ∧ S.length ≤ L.length ∧ S ≠ []
theorem srt2 (a b : Int) : srtN [a, b] 2 = if b < a then [b, a] else [a, b] := by
  by_cases h : b < a <;> simp [srtN, swapDown, h]
theorem srt3 (a b c : Int) : srtN [a, b, c] 3 = if b < a then (if c < a then (if c < b then [c, b, a] else [b, c, a]) else [b, a, c]) else (if c < b then (if c < a then [c, a, b] else [a, c, b]) else [a, b, c]) := by
  by_cases h : b < a
  · by_cases h2 : c < a
    · by_cases h3 : c < b <;> simp [srtN, swapDown, h, h2, h3]
    · simp [srtN, swapDown, h, h2]
  · by_cases h2 : c < b
    · by_cases h3 : c < a <;> simp [srtN, swapDown, h, h2, h3]
    · simp [srtN, swapDown, h, h2]
theorem cmp2 (a b : Int) : cmpN [a, b] 2 = if a = b then [a] else [a, b] := by
  by_cases h : a = b
  · subst h; simp [cmpN]
  · have h' : ¬ b = a := fun e => h e.symm
    simp [cmpN, h, h']
theorem cmp3 (a b c : Int) : cmpN [a, b, c] 3 = if a = b then (if b = c then [a] else [a, c]) else (if b = c then [a, b] else [a, b, c]) := by
  by_cases h : a = b
  · subst h
    by_cases h2 : a = c
    · subst h2; simp [cmpN]
    · have h' : ¬ c = a := fun e => h2 e.symm
      simp [cmpN, h2, h']
  · have h' : ¬ b = a := fun e => h e.symm
    by_cases h2 : b = c
    · subst h2; simp [cmpN, h, h']
    · have h3 : ¬ c = b := fun e => h2 e.symm
      simp [cmpN, h, h', h2, h3]
theorem cmp3_P {a b c : Int} (h1 : a ≤ b) (h2 : b ≤ c) : ShowP [a, b, c] (cmpN [a, b, c] 3) := by
  rw [cmp3]
  unfold ShowP
  split
  · rename_i e; subst e
    split
    · rename_i e; subst e; simp
    · refine ⟨fun x => by simp, by simp; omega, by simp, by simp⟩
  · split
    · rename_i e; subst e
      refine ⟨fun x => by simp, by simp; omega, by simp, by simp⟩
    · refine ⟨fun x => by simp, by simp; omega, by simp, by simp⟩
theorem ShowP.of {L L' S : List Int} (h : ShowP L' S) (hm : ∀ x, x ∈ L' ↔ x ∈ L) (hl : L'.length = L.length) : ShowP L S :=
  ⟨fun x => (h.1 x).trans (hm x), h.2.1, hl ▸ h.2.2.1, h.2.2.2⟩
theorem show_P (L : List Int) (h1 : 1 ≤ L.length) (h3 : L.length ≤ 3) : ShowP L (cmpN (srtN L L.length) L.length) := by
  match L, h1, h3 with
  | [a], _, _ => exact ⟨fun x => Iff.rfl, by simp [srtN, cmpN], by simp [srtN, cmpN], by simp [srtN, cmpN]⟩
  | [a, b], _, _ =>
    show ShowP [a, b] (cmpN (srtN [a, b] 2) 2)
    rw [srt2]
    split
    · rw [cmp2, if_neg (by omega)]
      refine ⟨fun x => by simp [or_comm], by simp; omega, by simp, by simp⟩
    · rw [cmp2]
      split
      · rename_i e; subst e
        refine ⟨fun x => by simp, by simp, by simp, by simp⟩
      · refine ⟨fun x => by simp, by simp; omega, by simp, by simp⟩
  | [a, b, c], _, _ =>
    show ShowP [a, b, c] (cmpN (srtN [a, b, c] 3) 3)
    rw [srt3]
    have hm : ∀ {p q r : Int}, ((∀ x, (x = p ∨ x = q ∨ x = r) ↔ (x = a ∨ x = b ∨ x = c))) → ∀ x, x ∈ [p, q, r] ↔ x ∈ [a, b, c] := fun h x => by
      simp only [List.mem_cons, List.not_mem_nil, or_false]
      exact h x
    repeat' split
    all_goals
      refine (cmp3_P (by omega) (by omega)).of (hm fun x => ?_) rfl
      omega
theorem handsL_len {o : Ow} (ho : o.OK) {m : Int} (h : o.set_ ≤ m) : (handsL o m).length = (o.hi + 1 - o.lo).toNat := by unfold handsL; rw [if_pos h, List.length_map, rngI_len]
theorem showL_P {o : Ow} (ho : o.OK) {m : Int} (h : o.set_ ≤ m) : ShowP (handsL o m) (showL o m) := by
  have hg := ho.gain
  have hl := handsL_len ho h
  exact show_P _ (by omega) (by omega)
theorem handsL_mem {o : Ow} {m : Int} (h : o.set_ ≤ m) {x : Int} : x ∈ handsL o m ↔ ∃ g, (o.lo ≤ g ∧ g ≤ o.hi) ∧ dialI o m g = x := by
  unfold handsL
  rw [if_pos h, List.mem_map]
  constructor
  · rintro ⟨g, hg, rfl⟩; exact ⟨g, mem_rngI.1 hg, rfl⟩
  · rintro ⟨g, hg, rfl⟩; exact ⟨g, mem_rngI.2 hg, rfl⟩
theorem mod_nat (a n : Nat) : (a : Int).tmod (n : Int) = ((a % n : Nat) : Int) := by rw [Int.tmod_eq_emod_of_nonneg (by omega)]; rfl
theorem lt_of_wI {n : Int} {k : Nat} (h : wI n 0 ((k : Int) - 1) = false) : True := trivial
theorem isO_at {w : Wa} {i : Nat} (h : i < w.os.length) : w.isO i = true := decide_eq_true (by omega)
theorem isF_at {w : Wa} {i : Nat} (h : i < w.fs.length) : w.isF i = true := decide_eq_true (by omega)
theorem isO_len (w : Wa) : w.isO w.os.length = false := decide_eq_false (by omega)
theorem isO_neg (w : Wa) : w.isO (-1) = false := by unfold Wa.isO wI; exact decide_eq_false (by omega)
theorem specShows_at {w : Wa} (hok : w.ok = true) {i : Nat} {o : Ow} (hx : w.os[i]? = some o) {m : Int} (hm : 0 ≤ m ∧ m ≤ 1440) : specShows w i m = if o.set_ ≤ m then (showL o m, 0) else ([], 11) := by
  have hi := (List.getElem?_eq_some_iff.1 hx).1
  have hm2 : wI m 0 1440 = true := decide_eq_true hm
  unfold specShows
  rw [hok, if_pos rfl, isO_at hi, hm2, Bool.true_and, if_pos rfl, Int.toNat_natCast, hx]
theorem specShows_no {w : Wa} (hok : w.ok = true) {i m : Int} (h : (w.isO i && wI m 0 1440) = false) : specShows w i m = ([], 2) := by
  unfold specShows
  rw [hok, if_pos rfl, h]
  rfl
def M5 (w : Wa) (o : Ow) (m : Nat) (L : List Int) (st : St) : Prop := lk st.env 8 = .t (vi m) ∧ lk st.env 9 = .ptr 1 0 ∧ lk st.env 10 = .t (tI L) ∧ lk st.env 11 = .t (vi 0) ∧ st.σ = [.cells ((wa2 w).map .t), .cells [.t (vi o.set_), .t (vi o.lo), .t (vi o.hi), .t (vi o.huts)]] ∧ st.df = [] ∧ st.k = 0
end Go.Proofs.YtnmmhkkmejbckaaGreatDoor
