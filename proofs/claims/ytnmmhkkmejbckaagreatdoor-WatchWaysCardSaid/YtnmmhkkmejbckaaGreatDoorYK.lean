/- Proved here: laws that the statements need (WzW2). No conditions but those that each law states. -/
import Derived.Test.YtnmmhkkmejbckaaGreatDoorYJ

set_option linter.unusedSimpArgs false
set_option linter.unusedVariables false

/- Watches in which a find can be one owner's alone. -/
namespace Go.Proofs.YtnmmhkkmejbckaaGreatDoor
open Go Go.Ab

/-! ### Whose a find can be: by huts, and by what was shown -/
def coreB (o : Ow) (f : Fi) : Bool := !(if f.stopped then (rngI o.set_ f.minute).filter (fun m => seen o m f.lo f.hi) else [f.minute].filter (fun m => seen o m f.lo f.hi)).isEmpty
theorem fitB_split (o : Ow) (f : Fi) : fitB o f = (hutB o f && coreB o f) := by
  unfold fitB coreB minsL
  cases hh : hutB o f
  · have : ∀ l : List Int, l.filter (atB o f) = [] := fun l => by
      rw [List.filter_eq_nil_iff]
      intro x _
      unfold atB
      rw [hh]
      simp
    split <;> rw [this] <;> rfl
  · have : atB o f = fun m => seen o m f.lo f.hi := by
      funext m
      unfold atB
      rw [hh, Bool.true_and]
    rw [this, Bool.true_and]
theorem coreB_hut (o : Ow) (f : Fi) (h h' : Int) : coreB { o with huts := h } { f with hut := h' } = coreB o f := rfl

/-! ### A hut that nobody uses -/
def usedN (fs : List Fi) : Nat := fs.foldl (fun a f => a ||| 2 ^ f.hut.toNat) 0
def freeI (U : Nat) : Nat → Int
  | 0 => -1
  | h + 1 => if U.testBit h then freeI U h else h
theorem usedN_snoc (fs : List Fi) (f : Fi) : usedN (fs ++ [f]) = usedN fs ||| 2 ^ f.hut.toNat := by unfold usedN; rw [List.foldl_append]; rfl
theorem usedN_bit {fs : List Fi} {f : Fi} (h : f ∈ fs) : (usedN fs).testBit f.hut.toNat = true := by
  have hor : ∀ (l : List Fi) (a : Nat), l.foldl (fun a f => a ||| 2 ^ f.hut.toNat) a = a ||| usedN l := by
    intro l
    induction l with
    | nil => intro a; simp [usedN]
    | cons x l ih =>
      intro a
      unfold usedN
      rw [List.foldl_cons, List.foldl_cons, ih, ih, Nat.zero_or, Nat.or_assoc]
  obtain ⟨a, b, rfl⟩ := List.append_of_mem h
  unfold usedN
  rw [List.foldl_append, hor, Nat.testBit_or]
  rw [show usedN (f :: b) = (0 ||| 2 ^ f.hut.toNat) ||| usedN b from hor b _, Nat.testBit_or, Nat.zero_or, Nat.testBit_two_pow_self]
  simp
theorem freeI_ok (U : Nat) : ∀ n, (∃ h, h < n ∧ U.testBit h = false) → ∃ h : Nat, freeI U n = h ∧ h < n ∧ U.testBit h = false
  | 0, ⟨_, h, _⟩ => by omega
  | n + 1, ⟨h, h1, h2⟩ => by
    unfold freeI
    cases hb : U.testBit n
    · exact ⟨n, rfl, by omega, hb⟩
    · rw [if_pos rfl]
      have hn : h < n := by
        rcases Nat.lt_or_ge h n with k | k
        · exact k
        · have : h = n := by omega
          rw [this, hb] at h2
          cases h2
      obtain ⟨x, a, b, c⟩ := freeI_ok U n ⟨h, hn, h2⟩
      exact ⟨x, a, by omega, c⟩
theorem free4 : ∀ a : Fin 6, ∀ b : Fin 6, ∀ c : Fin 6, ∀ d : Fin 6, ∃ h : Fin 6, h.val ≠ a.val ∧ h.val ≠ b.val ∧ h.val ≠ c.val ∧ h.val ≠ d.val := by decide +kernel
theorem usedN_lt {fs : List Fi} (hf : ∀ f ∈ fs, f.OK) : usedN fs < 64 := by
  suffices h : ∀ n, usedN (fs.take n) < 64 by
    have := h fs.length
    rwa [List.take_length] at this
  intro n
  induction n with
  | zero => simp [usedN]
  | succ n ih =>
    rw [List.take_add_one]
    cases hx : fs[n]? with
    | none => simpa using ih
    | some f =>
      rw [Option.toList_some, usedN_snoc]
      have := (hf f (List.mem_of_getElem? hx)).hut
      refine Nat.or_lt_two_pow (n := 6) (by omega) ?_
      exact Nat.pow_lt_pow_right (by decide) (by omega)
theorem used_free {fs : List Fi} (hf : ∀ f ∈ fs, f.OK) (h4 : fs.length ≤ 4) : ∃ h : Nat, freeI (usedN fs) 6 = h ∧ h < 6 ∧ (usedN fs).testBit h = false := by
  refine freeI_ok _ 6 ?_
  have key : ∀ l : List Nat, l.length ≤ 4 → (∀ x ∈ l, x < 6) → ∃ h, h < 6 ∧ ∀ x ∈ l, h ≠ x := by
    intro l hl hx
    have hg : ∀ i, l.getD i 0 < 6 := fun i => by
      rw [List.getD_eq_getElem?_getD]
      cases he : l[i]? with
      | none => simp
      | some y => exact hx y (List.mem_of_getElem? he)
    obtain ⟨h, h0, h1, h2, h3⟩ := free4 ⟨_, hg 0⟩ ⟨_, hg 1⟩ ⟨_, hg 2⟩ ⟨_, hg 3⟩
    simp only at h0 h1 h2 h3
    refine ⟨h.val, h.isLt, fun x hxm e => ?_⟩
    obtain ⟨i, hi⟩ := List.getElem?_of_mem hxm
    have hil := (List.getElem?_eq_some_iff.1 hi).1
    have hgi : l.getD i 0 = x := by rw [List.getD_eq_getElem?_getD, hi]; rfl
    have : i = 0 ∨ i = 1 ∨ i = 2 ∨ i = 3 := by omega
    rcases this with rfl | rfl | rfl | rfl
    · exact h0 (by rw [e, hgi])
    · exact h1 (by rw [e, hgi])
    · exact h2 (by rw [e, hgi])
    · exact h3 (by rw [e, hgi])
  obtain ⟨h, h6, hne⟩ := key (fs.map fun f => f.hut.toNat) (by simpa using h4) (fun x hx => by
    obtain ⟨f, hfm, rfl⟩ := List.mem_map.1 hx
    have := (hf f hfm).hut
    omega)
  refine ⟨h, h6, ?_⟩
  cases hb : (usedN fs).testBit h
  · rfl
  exfalso
  have : ∀ n, (usedN (fs.take n)).testBit h = false := by
    intro n
    induction n with
    | zero => simp [usedN]
    | succ n ih =>
      rw [List.take_add_one]
      cases hx : fs[n]? with
      | none => simpa using ih
      | some f =>
        rw [Option.toList_some, usedN_snoc, Nat.testBit_or, ih, Bool.false_or, Nat.testBit_two_pow]
        exact decide_eq_false fun e => hne _ (List.mem_map.2 ⟨f, List.mem_of_getElem? hx, rfl⟩) e.symm
  have h2 := this fs.length
  rw [List.take_length, hb] at h2
  cases h2

/-! ### The watches -/
def movO (h : Nat) (f : Fi) (o : Nat) (p : Nat) (x : Ow) : Ow := { x with huts := ((ndiff x.huts.toNat (2 ^ h) ||| (if p = o ∧ x.huts.toNat.testBit f.hut.toNat = true then 2 ^ h else 0) : Nat) : Int) }
def movL (h : Nat) (f : Fi) (o : Nat) (os : List Ow) : List Ow := os.mapIdx fun p x => movO h f o p x
def fixW (w : Wa) (i : Nat) (f : Fi) (h o : Nat) : Wa := { os := movL h f o w.os, fs := w.fs.set i { f with hut := (h : Int) } }
theorem movO_OK {x : Ow} (hx : x.OK) {h : Nat} (hh : h < 6) (f : Fi) (o p : Nat) : (movO h f o p x).OK := by
  have h1 := hx.huts
  have h2 : 2 ^ h ≤ 2 ^ 5 := Nat.pow_le_pow_right (by omega) (by omega)
  have hlt : ndiff x.huts.toNat (2 ^ h) ||| (if p = o ∧ x.huts.toNat.testBit f.hut.toNat = true then 2 ^ h else 0) < 2 ^ 6 := by
    have := ndiff_le x.huts.toNat (2 ^ h)
    refine Nat.or_lt_two_pow (by omega) ?_
    split
    · omega
    · omega
  refine ⟨hx.set_, hx.gain, ?_⟩
  unfold movO
  simp only
  omega
theorem fixW_OK {w : Wa} (hw : w.OK) {i : Nat} {f : Fi} (hf : w.fs[i]? = some f) {h : Nat} (hh : h < 6) (o : Nat) : (fixW w i f h o).OK := by
  have hfo := hw.fs f (List.mem_of_getElem? hf)
  refine ⟨?_, ?_, fun x hx => ?_, fun x hx => ?_⟩
  · unfold fixW movL; simp; exact hw.no
  · unfold fixW; simp; exact hw.nf
  · unfold fixW movL at hx
    obtain ⟨p, hp, rfl⟩ := List.mem_mapIdx.1 hx
    exact movO_OK (hw.os _ (List.getElem_mem hp)) hh f o p
  · unfold fixW at hx
    rcases List.mem_or_eq_of_mem_set hx with hx | rfl
    · exact hw.fs x hx
    · exact ⟨by simp only; omega, hfo.minute, hfo.shows⟩
theorem hutB_mov {x : Ow} {g : Fi} {h : Nat} (hne : g.hut.toNat ≠ h) (f : Fi) (o p : Nat) : hutB (movO h f o p x) g = hutB x g := by
  unfold hutB movO
  simp only [Int.toNat_natCast, Nat.testBit_or, ndiff_bit, Nat.testBit_two_pow]
  have e : decide (h = g.hut.toNat) = false := decide_eq_false fun e => hne e.symm
  rw [e]
  split
  · rw [Nat.testBit_two_pow, e]; simp
  · simp
theorem hutB_own {x : Ow} {h : Nat} (f : Fi) (o p : Nat) : hutB (movO h f o p x) { f with hut := (h : Int) } = (decide (p = o) && hutB x f) := by
  unfold hutB movO
  simp only [Int.toNat_natCast, Nat.testBit_or, ndiff_bit, Nat.testBit_two_pow_self, Bool.not_true, Bool.and_false, Bool.false_or]
  by_cases e : p = o
  · subst e
    rw [decide_eq_true rfl, Bool.true_and]
    cases hb : x.huts.toNat.testBit f.hut.toNat
    · simp
    · simp [Nat.testBit_two_pow_self]
  · rw [decide_eq_false e, Bool.false_and, if_neg (by simp [e])]
    simp
theorem fix_fits {w : Wa} (hw : w.OK) {i : Nat} {f : Fi} (hf : w.fs[i]? = some f) {h : Nat} (hh : h < 6) (hfree : (usedN w.fs).testBit h = false) (o : Nat) : (fixW w i f h o).fits = onlyN w.fits i o := by
  have hne : ∀ g ∈ w.fs, g.hut.toNat ≠ h := fun g hg e => by
    have := usedN_bit hg
    rw [e, hfree] at this
    cases this
  have hil := (List.getElem?_eq_some_iff.1 hf).1
  have hlen : (fixW w i f h o).os.length = w.os.length := by unfold fixW movL; simp
  have hget : ∀ k, (fixW w i f h o).os[k]? = (w.os[k]?).map (movO h f o k) := fun k => by unfold fixW movL; simp
  have hgi : w.fits.getD i 0 = fitN w.os f := by
    unfold Wa.fits
    rw [List.getD_eq_getElem?_getD, List.getElem?_map, hf]; rfl
  unfold onlyN
  rw [hgi]
  apply List.ext_getElem?
  intro j
  rw [List.getElem?_set]
  have hlf : w.fits.length = w.fs.length := by unfold Wa.fits; simp
  have hfj : (fixW w i f h o).fits[j]? = ((fixW w i f h o).fs[j]?).map (fitN (fixW w i f h o).os) := by unfold Wa.fits; rw [List.getElem?_map]
  rw [hfj]
  have hfs : (fixW w i f h o).fs[j]? = if i = j then some { f with hut := (h : Int) } else w.fs[j]? := by
    unfold fixW
    simp only
    rw [List.getElem?_set]
    by_cases e : i = j
    · subst e; rw [if_pos rfl, if_pos rfl, if_pos hil]
    · rw [if_neg e, if_neg e]
  rw [hfs]
  by_cases e : i = j
  · subst e
    rw [if_pos rfl, if_pos rfl, if_pos (by omega)]
    simp only [Option.map_some, Option.some.injEq]
    apply Nat.eq_of_testBit_eq
    intro k
    rw [fitN_bit, fitN_bit]
    have hk : fitP (fixW w i f h o).os { f with hut := (h : Int) } k = (decide (k = o) && fitP w.os f k) := by
      unfold fitP
      rw [hget]
      cases hx : w.os[k]? with
      | none => simp
      | some x =>
        simp only [Option.map_some]
        rw [fitB_split, fitB_split, hutB_own, Bool.and_assoc]
        rfl
    rw [hk]
    by_cases ek : k = o
    · subst ek
      rw [decide_eq_true rfl, Bool.true_and]
      cases hb : fitP w.os f k
      · simp
      · simp [Nat.testBit_two_pow_self]
    · rw [decide_eq_false ek, Bool.false_and]
      split
      · rw [Nat.testBit_two_pow, decide_eq_false (Ne.symm ek)]
      · simp
  · rw [if_neg e, if_neg e]
    unfold Wa.fits
    rw [List.getElem?_map]
    cases hg : w.fs[j]? with
    | none => rfl
    | some g =>
      simp only [Option.map_some, Option.some.injEq]
      apply Nat.eq_of_testBit_eq
      intro k
      rw [fitN_bit, fitN_bit]
      unfold fitP
      rw [hget]
      cases hx : w.os[k]? with
      | none => rfl
      | some x =>
        simp only [Option.map_some]
        rw [fitB_split, fitB_split, hutB_mov (hne g (List.mem_of_getElem? hg))]
        rfl
end Go.Proofs.YtnmmhkkmejbckaaGreatDoor
