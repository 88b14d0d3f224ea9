/- Proved here: laws that the statements need (WaY1). No conditions but those that each law states. -/
import Derived.Test.YtnmmhkkmejbckaaDoorEN

set_option linter.unusedSimpArgs false
set_option linter.unusedVariables false

/- Watches with a find more, an owner more, a wider span, and all 720 minutes later. Plain laws. -/
namespace Go.Proofs.YtnmmhkkmejbckaaDoor
open Go Go.Ab

theorem ndiff_nil {a b : Nat} (h : ∀ i, a.testBit i = true → b.testBit i = true) : ndiff a b = 0 := by
  apply Nat.eq_of_testBit_eq
  intro i
  rw [ndiff_bit, Nat.zero_testBit]
  cases ha : a.testBit i
  · rfl
  · rw [h i ha]; rfl

/-! ### Truths of fits that are no less -/
theorem truths_sub {F G : List Nat} (hl : F.length = G.length) (h : ∀ p o, (F.getD p 0).testBit o = true → (G.getD p 0).testBit o = true) {l : List Nat} (hm : l ∈ truths F) : l ∈ truths G := by
  obtain ⟨a, b, c⟩ := truths_mem.1 hm
  exact truths_mem.2 ⟨by omega, b, fun p i hp => ⟨h p i (c p i hp).1, (c p i hp).2⟩⟩
theorem ways_sub {F G : List Nat} (hl : F.length = G.length) (h : ∀ p o, (F.getD p 0).testBit o = true → (G.getD p 0).testBit o = true) : waysN F ≤ waysN G := ways_le id (fun _ hm => truths_sub hl h hm) (fun _ _ _ _ e => e)
theorem whose_sub {F G : List Nat} (hl : F.length = G.length) (h : ∀ p o, (F.getD p 0).testBit o = true → (G.getD p 0).testBit o = true) {p : Nat} (hp : p < 4) (o : Nat) (hb : ((whoseL F).getD p 0).testBit o = true) : ((whoseL G).getD p 0).testBit o = true := by
  rw [whose_bit _ hp] at hb ⊢
  obtain ⟨l, h1, h2⟩ := hb
  exact ⟨l, truths_sub hl h h1, h2⟩
theorem truths_drop {F : List Nat} {u : Nat} {l : List Nat} (hm : l ∈ truths (F ++ [u])) : l.take F.length ∈ truths F := by
  obtain ⟨a, b, c⟩ := truths_mem.1 hm
  rw [List.length_append, List.length_cons, List.length_nil] at a
  refine truths_mem.2 ⟨by rw [List.length_take]; omega, b.sublist (List.take_sublist _ _), fun p i hp => ?_⟩
  rw [List.getElem?_take] at hp
  split at hp
  · rename_i hpl
    have := c p i hp
    rw [List.getD_eq_getElem?_getD, List.getElem?_append_left hpl, ← List.getD_eq_getElem?_getD] at this
    exact this
  · cases hp
theorem ways_drop {F : List Nat} {u : Nat} (h : waysN (F ++ [u]) ≠ 0) : waysN F ≠ 0 := by
  obtain ⟨l, hl⟩ := ways_pos.1 h
  exact ways_pos.2 ⟨_, truths_drop hl⟩
theorem whose_drop {F : List Nat} {u p : Nat} (hp : p < 4) (hpl : p < F.length) (o : Nat) (hb : ((whoseL (F ++ [u])).getD p 0).testBit o = true) : ((whoseL F).getD p 0).testBit o = true := by
  rw [whose_bit _ hp] at hb ⊢
  obtain ⟨l, h1, h2⟩ := hb
  exact ⟨_, truths_drop h1, by rw [List.getElem?_take, if_pos hpl]; exact h2⟩

/-! ### A find more -/
def addF (w : Wa) (f : Fi) : Wa := { os := w.os, fs := w.fs ++ [f] }
theorem addF_fits (w : Wa) (f : Fi) : (addF w f).fits = w.fits ++ [fitN w.os f] := by unfold Wa.fits addF; simp

/-! ### An owner more -/
def addO (w : Wa) (o : Ow) : Wa := { os := w.os ++ [o], fs := w.fs }
theorem fits_getD {w : Wa} {p : Nat} : w.fits.getD p 0 = match w.fs[p]? with | some f => fitN w.os f | none => 0 := by
  unfold Wa.fits
  rw [List.getD_eq_getElem?_getD, List.getElem?_map]
  cases w.fs[p]? <;> rfl
theorem addO_sub (w : Wa) (o : Ow) (p q : Nat) (h : (w.fits.getD p 0).testBit q = true) : ((addO w o).fits.getD p 0).testBit q = true := by
  rw [fits_getD] at h ⊢
  unfold addO
  cases hf : w.fs[p]? with
  | none => rw [hf] at h; simp at h
  | some f =>
    rw [hf] at h
    simp only at h ⊢
    rw [fitN_bit] at h ⊢
    rcases Nat.lt_or_ge q w.os.length with a | a
    · unfold fitP at h ⊢
      rw [List.getElem?_append_left a]
      exact h
    · rw [fitP_no a] at h; cases h
theorem addO_len (w : Wa) (o : Ow) : w.fits.length = (addO w o).fits.length := by unfold Wa.fits addO; simp

/-! ### A wider span -/
theorem seen_wide {o : Ow} {m lo hi hi' : Int} (hh : hi ≤ hi') (h : seen o m lo hi = true) : seen o m lo hi' = true := by
  unfold seen at h ⊢
  rw [List.any_eq_true] at h ⊢
  obtain ⟨x, h1, h2⟩ := h
  refine ⟨x, h1, ?_⟩
  unfold wI at h2 ⊢
  rw [decide_eq_true_eq] at h2 ⊢
  omega
theorem fit_wide {o : Ow} {f : Fi} {hi' : Int} (hh : f.hi ≤ hi') (h : fitB o f = true) : fitB o { f with hi := hi' } = true := by
  have key : ∀ l : List Int, (l.filter (atB o f)).isEmpty = false → (l.filter (atB o { f with hi := hi' })).isEmpty = false := fun l hl => by
    rw [List.isEmpty_eq_false_iff] at hl ⊢
    obtain ⟨x, hx⟩ := List.exists_mem_of_ne_nil _ hl
    obtain ⟨h1, h2⟩ := List.mem_filter.1 hx
    refine List.ne_nil_of_mem (a := x) (List.mem_filter.2 ⟨h1, ?_⟩)
    unfold atB at h2 ⊢
    rw [Bool.and_eq_true] at h2 ⊢
    exact ⟨h2.1, seen_wide hh h2.2⟩
  unfold fitB minsL at h ⊢
  cases hs : f.stopped
  · rw [hs] at h
    simp only [Bool.false_eq_true, if_false, Bool.not_eq_true'] at h ⊢
    exact key _ h
  · rw [hs] at h
    simp only [if_true, Bool.not_eq_true'] at h ⊢
    exact key _ h
def setF (w : Wa) (i : Nat) (f : Fi) : Wa := { os := w.os, fs := w.fs.set i f }
theorem setF_len (w : Wa) (i : Nat) (f : Fi) : w.fits.length = (setF w i f).fits.length := by unfold Wa.fits setF; simp
theorem setF_sub {w : Wa} {i : Nat} {f : Fi} (hf : w.fs[i]? = some f) {hi' : Int} (hh : f.hi ≤ hi') (p q : Nat) (h : (w.fits.getD p 0).testBit q = true) : ((setF w i { f with hi := hi' }).fits.getD p 0).testBit q = true := by
  rw [fits_getD] at h ⊢
  unfold setF
  have hil := (List.getElem?_eq_some_iff.1 hf).1
  simp only
  rw [List.getElem?_set]
  by_cases e : i = p
  · subst e
    rw [if_pos rfl, if_pos hil]
    rw [hf] at h
    simp only at h ⊢
    rw [fitN_bit] at h ⊢
    unfold fitP at h ⊢
    cases ho : w.os[q]? with
    | none => rw [ho] at h; cases h
    | some o =>
      rw [ho] at h
      exact fit_wide hh h
  · rw [if_neg e]; exact h

/-! ### All later -/
def shO (o : Ow) : Ow := { o with set_ := o.set_ + 720 }
def shF (f : Fi) : Fi := { f with minute := f.minute + 720 }
def shW (w : Wa) : Wa := { os := w.os.map shO, fs := w.fs.map shF }
theorem dial_sh (o : Ow) (m g : Int) : dialI (shO o) (m + 720) g = dialI o m g := by
  unfold dialI shO
  rw [show m + 720 - (o.set_ + 720) = m - o.set_ by omega]
  generalize g * (m - o.set_) / 60 = X
  omega
theorem hands_sh (o : Ow) (m : Int) : handsL (shO o) (m + 720) = handsL o m := by
  have e : dialI (shO o) (m + 720) = dialI o m := funext fun g => dial_sh o m g
  unfold handsL
  rw [e]
  by_cases h : o.set_ ≤ m
  · rw [if_pos h, if_pos (show (shO o).set_ ≤ m + 720 by unfold shO; simp only; omega)]; rfl
  · rw [if_neg h, if_neg (show ¬ (shO o).set_ ≤ m + 720 by unfold shO; simp only; omega)]
theorem at_sh (o : Ow) (f : Fi) (m : Int) : atB (shO o) (shF f) (m + 720) = atB o f m := by
  unfold atB seen
  rw [hands_sh]
  rfl
theorem rngI_sh (a b : Int) : rngI (a + 720) (b + 720) = (rngI a b).map (· + 720) := by
  unfold rngI
  rw [show b + 720 + 1 - (a + 720) = b + 1 - a by omega, List.map_map]
  refine List.map_congr_left fun j _ => ?_
  simp only [Function.comp]
  omega
theorem filter_sh (o : Ow) (f : Fi) (l : List Int) : (l.map (· + 720)).filter (atB (shO o) (shF f)) = (l.filter (atB o f)).map (· + 720) := by
  rw [List.filter_map]
  congr 1
  refine List.filter_congr fun x _ => ?_
  exact at_sh o f x
theorem mins_sh (o : Ow) (f : Fi) : minsL (shO o) (shF f) = (minsL o f).map (· + 720) := by
  unfold minsL
  rw [show (shF f).stopped = f.stopped from rfl, show (shO o).set_ = o.set_ + 720 from rfl, show (shF f).minute = f.minute + 720 from rfl, rngI_sh, filter_sh, show [f.minute + 720] = [f.minute].map (· + 720) from rfl, filter_sh]
  split <;> rfl
theorem fit_sh (o : Ow) (f : Fi) : fitB (shO o) (shF f) = fitB o f := by
  unfold fitB
  rw [mins_sh]
  cases minsL o f <;> rfl
theorem fits_sh (w : Wa) : (shW w).fits = w.fits := by
  unfold Wa.fits shW
  simp only [List.map_map]
  refine List.map_congr_left fun f _ => ?_
  apply Nat.eq_of_testBit_eq
  intro i
  simp only [Function.comp]
  rw [fitN_bit, fitN_bit]
  unfold fitP
  rw [List.getElem?_map]
  cases w.os[i]? with
  | none => rfl
  | some o => exact fit_sh o f
theorem shW_OK {w : Wa} (hw : w.OK) (h1 : ∀ o ∈ w.os, o.set_ + 720 ≤ 1440) (h2 : ∀ f ∈ w.fs, f.minute + 720 ≤ 1440) : (shW w).OK := by
  refine ⟨by unfold shW; simp only [List.length_map]; exact hw.no, by unfold shW; simp only [List.length_map]; exact hw.nf, fun o ho => ?_, fun f hf => ?_⟩
  · obtain ⟨x, hx, rfl⟩ := List.mem_map.1 ho
    have a := hw.os x hx
    have b := h1 x hx
    have c := a.set_
    exact ⟨by unfold shO; simp only; omega, a.gain, a.huts⟩
  · obtain ⟨x, hx, rfl⟩ := List.mem_map.1 hf
    have a := hw.fs x hx
    have b := h2 x hx
    have c := a.minute
    exact ⟨a.hut, by unfold shF; simp only; omega, a.shows⟩
def shS (p : Int × Int) : Int × Int := (p.1 + 720, p.2 + 720)
theorem step_sh (X : List (Int × Int)) (m : Int) : stepS (X.map shS) (m + 720) = (stepS X m).map shS := by
  unfold stepS
  rw [List.getLast?_map]
  cases h : X.getLast? with
  | none => simp [shS]
  | some p =>
    simp only [Option.map_some]
    by_cases e : p.2 = m - 1
    · rw [if_pos e, if_pos (show (shS p).2 = m + 720 - 1 by unfold shS; simp only; omega), List.map_append, List.map_dropLast]
      rfl
    · rw [if_neg e, if_neg (show ¬ (shS p).2 = m + 720 - 1 by unfold shS; simp only; omega), List.map_append]
      rfl
theorem spans_sh (L : List Int) : spansL (L.map (· + 720)) = (spansL L).map shS := by
  suffices h : ∀ n, spansL ((L.take n).map (· + 720)) = (spansL (L.take n)).map shS by
    have := h L.length
    rwa [List.take_length] at this
  intro n
  induction n with
  | zero => rfl
  | succ n ih =>
    rw [List.take_add_one]
    cases hx : L[n]? with
    | none => simpa using ih
    | some x => rw [Option.toList_some, List.map_append, spansL_snoc, List.map_singleton, spansL_snoc, ih, step_sh]
end Go.Proofs.YtnmmhkkmejbckaaDoor
