/- Proved here: laws that the statements need (WyD). No conditions but those that each law states. -/
import Derived.Test.YtnmmhkkmejbckaaGreatDoorYP
import Derived.Test.YtnmmhkkmejbckaaGreatDoorYM

set_option linter.unusedSimpArgs false
set_option linter.unusedVariables false

/- The document's truths are those of the program. -/
namespace Go.Proofs.YtnmmhkkmejbckaaGreatDoor
open Go Go.Ab

theorem gc_locE {kp : List Nat} {σ : List AO} {n id m es : Nat} {xs : List E} {ys : List T} (h : pos? kp id = none) (ho : σ[id]? = some (.row es xs)) (hm : m = xs.length) (hg : xs.map (E.gc kp σ (n + 1)) = ys.map .t) : E.gc kp σ (n + 2) (.loc id m) = .t (.slice es ys) := by
  rw [E.gc]
  simp only [h, ho, hm, if_true, hg, allT_t]
theorem rtruths_ok (w : Wa) (hw : w.OK) (set : Nat) (hs : set < 64) : ACall Tryz.prog 69 [.t (tWa w), .t (vi set), .t (.lit (.slice none 0 0)), .t (.lit (.slice none 0 0))] [] (res (.ret (.t (.slice 1 ((rtr w set w.fs.length []).map tI'))))) := by
  have h4 := hw.nf
  have h5 : 5 ^ w.fs.length ≤ 5 ^ 4 := Nat.pow_le_pow_right (by omega) h4
  have h := rtr_ok w hw set hs w.fs.length [] [] (by simp) (by simp; omega)
  have h1 : ACall Tryz.prog 69 [.t (tWa w), .t (vi set), .t (.lit (.slice none 0 0)), .loc 0 0] [.row 1 []] (TrR w set w.fs.length [] []) :=
    ACall.ghost (σ := [.row 1 []]) (args0 := [.t (tWa w), .t (vi set), .loc 1 0, .loc 0 0]) 1 (by decide) h
  have h2 : ACall Tryz.prog 69 [.t (tWa w), .t (vi set), .t (.lit (.slice none 0 0)), .t (.lit (.slice none 0 0))] [] (TrR w set w.fs.length [] []) :=
    ACall.ghost (σ := []) (args0 := [.t (tWa w), .t (vi set), .t (.lit (.slice none 0 0)), .loc 0 0]) 1 (by decide) h1
  refine h2.strike.mono ?_
  rintro o σ ⟨o0, σ0, ⟨xs, rfl, rfl, hx⟩, rfl, rfl⟩
  refine ⟨?_, rfl⟩
  show Out.ret (E.gc [] [.row 1 xs, rowI []] 12 (.loc 0 xs.length)) = _
  congr 1
  refine gc_locE (n := 10) rfl rfl rfl ?_
  refine gc_rowR (n := 9) ?_
  rcases hx with rfl | ⟨h0, rfl⟩
  · exact .inl (by rw [List.nil_append])
  · refine .inr ⟨[], 1, [], rfl, rfl, rfl, ?_⟩
    rw [h0]; rfl
theorem revery_ok (w : Wa) (h4 : w.fs.length ≤ 4) : ACall Tryz.prog 67 [.t (tWa w)] [] (ret (vi ((2 ^ w.fs.length - 1 : Nat) : Int))) := by
  refine ACall.walk k67 ?_
  have q := power_ok w.fs.length (by omega)
  have hp : 2 ^ w.fs.length ≤ 2 ^ 4 := Nat.pow_le_pow_right (by omega) h4
  have hp0 := Nat.two_pow_pos w.fs.length
  have hw1 : IntKind.i64.wrap (((2 ^ w.fs.length : Nat) : Int) - 1) = ((2 ^ w.fs.length - 1 : Nat) : Int) := by rw [wrap_id (by omega) (by omega)]; omega
  generalize 2 ^ w.fs.length = p at *
  unfold c67 tWa wa2
  simp only [go_sem, Nat.reduceEqDiff, Nat.reduceAdd, List.length_map]
  refine ACallL.quiet1 q rfl rfl rfl ?_
  simp only [go_sem, Nat.reduceEqDiff, hw1]
  exact finL_ret [] ⟨rfl, rfl, rfl, rfl, _, rfl, ret_mk rfl⟩

/-! ### All finds -/
def cI (i : Nat) : Int := (i : Int)
def truR (w : Wa) : List (List Int) := (truths w.fits).map fun t => t.map cI
theorem range_more {α : Type} (g : Nat → List α) {m : Nat} (h : ∀ i, m ≤ i → g i = []) : ∀ k, (List.range (m + k)).flatMap g = (List.range m).flatMap g
  | 0 => rfl
  | k + 1 => by
    rw [← Nat.add_assoc, List.range_succ, List.flatMap_append, range_more g h k]
    simp [h (m + k) (by omega)]
theorem flatMap_same {α β : Type} {f g : α → List β} {l : List α} (h : ∀ a ∈ l, f a = g a) : l.flatMap f = l.flatMap g := by
  simp only [List.flatMap]
  rw [List.map_congr_left h]
theorem cI_contains (b : List Nat) (i : Nat) : (b.map cI).contains (i : Int) = b.contains i := by
  rw [Bool.eq_iff_iff, List.contains_iff_mem, List.contains_iff_mem, List.mem_map]
  constructor
  · rintro ⟨a, h1, h2⟩
    have : a = i := by unfold cI at h2; omega
    exact this ▸ h1
  · intro h
    exact ⟨i, h, rfl⟩
theorem rtr_truT (w : Wa) (hw : w.OK) : ∀ (l : Nat) (b : List Nat) (has : List Bool), b.length + l = w.fs.length → has.length = 5 → (∀ i, i < 5 → has.getD i true = b.contains i) → rtr w (2 ^ w.fs.length - 1) l (b.map cI) = (truT w.fits l has).map fun t => (b ++ t).map cI
  | 0, b, has, _, _, _ => by simp [rtr, truT]
  | l + 1, b, has, hb, hl, hh => by
    have hn5 := hw.no
    have hlf : w.fits.length = w.fs.length := by unfold Wa.fits; simp
    have hbit : (2 ^ w.fs.length - 1).testBit (b.map cI).length = true := by
      rw [Nat.testBit_two_pow_sub_one, List.length_map]
      exact decide_eq_true (by omega)
    have e1 : rtr w (2 ^ w.fs.length - 1) (l + 1) (b.map cI) = (List.range w.os.length).flatMap fun o => if (w.fits.getD (b.map cI).length 0).testBit o && !(b.map cI).contains (o : Int) then rtr w (2 ^ w.fs.length - 1) l (b.map cI ++ [(o : Int)]) else [] := by
      show (if (2 ^ w.fs.length - 1).testBit (b.map cI).length then _ else _) = _
      rw [hbit]; rfl
    have e2 : truT w.fits (l + 1) has = (List.range 5).flatMap fun i => if has.getD i true || !(w.fits.getD (w.fits.length - (l + 1)) 0).testBit i then [] else (truT w.fits l (has.set i true)).map (i :: ·) := rfl
    rw [e1, e2, List.map_flatMap, List.length_map, show w.fits.length - (l + 1) = b.length by omega]
    have hno : ∀ i, w.os.length ≤ i → (w.fits.getD b.length 0).testBit i = false := fun i hi => by
      cases hc : (w.fits.getD b.length 0).testBit i
      · rfl
      · have hbl : b.length < w.fs.length := by omega
        unfold Wa.fits at hc
        rw [List.getD_eq_getElem?_getD, List.getElem?_map, List.getElem?_eq_getElem hbl] at hc
        have hc2 : (fitN w.os w.fs[b.length]).testBit i = true := hc
        rw [fitN_bit, fitP_no hi] at hc2
        cases hc2
    generalize w.fits.getD b.length 0 = FT at *
    have e3 := range_more (fun o : Nat => if FT.testBit o && !(b.map cI).contains (o : Int) then rtr w (2 ^ w.fs.length - 1) l (b.map cI ++ [(o : Int)]) else []) (m := w.os.length) (fun i hi => by rw [hno i hi]; rfl) (5 - w.os.length)
    rw [show w.os.length + (5 - w.os.length) = 5 by omega] at e3
    rw [← e3]
    refine flatMap_same fun i hi => ?_
    have hi5 := List.mem_range.1 hi
    rw [cI_contains, hh i hi5]
    cases h1 : FT.testBit i
    · simp
    · cases h2 : b.contains i
      · simp only [Bool.not_false, Bool.and_self, if_true, Bool.not_true, Bool.or_self, Bool.false_eq_true, if_false, List.map_map]
        have ih := rtr_truT w hw l (b ++ [i]) (has.set i true) (by simp; omega) (by rw [List.length_set]; exact hl) (fun x hx => by
          rw [List.getD_eq_getElem?_getD]
          by_cases e : i = x
          · subst e
            rw [List.getElem?_set_self (by omega)]
            simp
          · rw [List.getElem?_set_ne e, ← List.getD_eq_getElem?_getD, hh x hx]
            rw [Bool.eq_iff_iff, List.contains_iff_mem, List.contains_iff_mem, List.mem_append, List.mem_singleton]
            constructor
            · exact .inl
            · rintro (h | h)
              · exact h
              · exact absurd h.symm e)
        rw [List.map_append] at ih
        have e4 : b.map cI ++ [(i : Int)] = b.map cI ++ [i].map cI := rfl
        rw [e4, ih]
        refine List.map_congr_left fun t _ => ?_
        simp [Function.comp]
      · simp
theorem rtr_all (w : Wa) (hw : w.OK) : rtr w (2 ^ w.fs.length - 1) w.fs.length [] = truR w := by
  have hlf : w.fits.length = w.fs.length := by unfold Wa.fits; simp
  have := rtr_truT w hw w.fs.length [] has0 (by simp) rfl (fun i hi => by
    have : i = 0 ∨ i = 1 ∨ i = 2 ∨ i = 3 ∨ i = 4 := by omega
    rcases this with rfl | rfl | rfl | rfl | rfl <;> rfl)
  rw [show ([] : List Nat).map cI = [] from rfl] at this
  rw [this]
  unfold truR truths
  rw [hlf]
  rfl
theorem rTruths_ok (w : Wa) (hw : w.OK) : ACall Tryz.prog 54 [.t (tWa w)] [] (res (.ret (.t (.slice 1 ((truR w).map tI'))))) := by
  refine ACall.walk k54 ?_
  have h4 := hw.nf
  have hp : 2 ^ w.fs.length ≤ 2 ^ 4 := Nat.pow_le_pow_right (by omega) h4
  have q1 := revery_ok w h4
  have q2 := rtruths_ok w hw (2 ^ w.fs.length - 1) (by omega)
  rw [rtr_all w hw] at q2
  unfold c54
  unfold tWa wa2 at q1 q2 ⊢
  generalize truR w = L at *
  simp only [go_sem, Nat.reduceEqDiff, Nat.reduceAdd]
  refine ACallL.quiet1 q1 rfl rfl rfl ?_
  simp only [go_sem, Nat.reduceEqDiff, Nat.reduceAdd]
  refine ACallL.fresh1 q2 rfl ?_
  simp only [go_sem, Nat.reduceEqDiff, Nat.reduceAdd]
  exact finL_ret [] ⟨rfl, rfl, rfl, rfl, _, rfl, res_mk rfl⟩

/-! ### Finds of a set -/
def goodR (w : Wa) (set : Nat) (bg : List Int) (x : Int) : Prop := if set.testBit bg.length then ∃ o : Nat, x = (o : Int) ∧ (w.fits.getD bg.length 0).testBit o = true ∧ (o : Int) ∉ bg else x = -1
def allR (w : Wa) (set : Nat) : List Int → List Int → Prop
  | _, [] => True
  | bg, x :: r => goodR w set bg x ∧ allR w set (bg ++ [x]) r
theorem rtr_mem (w : Wa) (hno : ∀ k o, (w.fits.getD k 0).testBit o = true → o < w.os.length) (set : Nat) : ∀ (l : Nat) (bg t : List Int), t ∈ rtr w set l bg ↔ ∃ r, t = bg ++ r ∧ r.length = l ∧ allR w set bg r
  | 0, bg, t => by
    unfold rtr
    rw [List.mem_singleton]
    constructor
    · rintro rfl
      exact ⟨[], by simp, rfl, trivial⟩
    · rintro ⟨r, rfl, h, -⟩
      rw [List.eq_nil_of_length_eq_zero h, List.append_nil]
  | l + 1, bg, t => by
    unfold rtr
    cases hb : set.testBit bg.length
    · simp only [Bool.false_eq_true, if_false]
      rw [rtr_mem w hno set l]
      constructor
      · rintro ⟨r, rfl, h1, h2⟩
        refine ⟨-1 :: r, by simp, by simp [h1], ?_, h2⟩
        unfold goodR
        rw [hb]; rfl
      · rintro ⟨r, rfl, h1, h2⟩
        cases r with
        | nil => simp at h1
        | cons x r =>
          obtain ⟨g, h2⟩ := h2
          unfold goodR at g
          rw [hb] at g
          have g' : x = -1 := g
          subst g'
          exact ⟨r, by simp, by simpa using h1, h2⟩
    · simp only [if_true]
      rw [List.mem_flatMap]
      constructor
      · rintro ⟨o, ho, ht⟩
        split at ht
        · rename_i hc
          rw [Bool.and_eq_true, Bool.not_eq_true'] at hc
          obtain ⟨r, rfl, h1, h2⟩ := (rtr_mem w hno set l _ _).1 ht
          refine ⟨(o : Int) :: r, by simp, by simp [h1], ?_, h2⟩
          unfold goodR
          rw [hb]
          refine ⟨o, rfl, hc.1, fun hm => ?_⟩
          rw [← List.contains_iff_mem, hc.2] at hm
          cases hm
        · simp at ht
      · rintro ⟨r, rfl, h1, h2⟩
        cases r with
        | nil => simp at h1
        | cons x r =>
          obtain ⟨g, h2⟩ := h2
          unfold goodR at g
          rw [hb] at g
          obtain ⟨o, rfl, g1, g2⟩ := g
          refine ⟨o, List.mem_range.2 (hno _ _ g1), ?_⟩
          have hc : bg.contains (o : Int) = false := by
            cases h : bg.contains (o : Int)
            · rfl
            · rw [List.contains_iff_mem] at h
              exact absurd h g2
          rw [g1, hc]
          simp only [Bool.not_false, Bool.and_self, if_true]
          exact (rtr_mem w hno set l _ _).2 ⟨r, by simp, by simpa using h1, h2⟩
theorem fits_no {w : Wa} (k o : Nat) (h : (w.fits.getD k 0).testBit o = true) : o < w.os.length := by
  rcases Nat.lt_or_ge o w.os.length with a | a
  · exact a
  · unfold Wa.fits at h
    rw [List.getD_eq_getElem?_getD, List.getElem?_map] at h
    cases hf : w.fs[k]? with
    | none => rw [hf] at h; simp at h
    | some f =>
      rw [hf] at h
      have h2 : (fitN w.os f).testBit o = true := h
      rw [fitN_bit, fitP_no a] at h2
      cases h2
/-- A set of finds has a truth for the document just if it has one. -/
theorem rtr_clash {w : Wa} (hw : w.OK) (set : Nat) : rtr w set w.fs.length [] ≠ [] ↔ waysN (pick w.fits set) ≠ 0 := by
  have h5 : ∀ x ∈ w.fits, ∀ o, x.testBit o = true → o < 5 := fits_five hw
  have hlf : w.fits.length = w.fs.length := by unfold Wa.fits; simp
  rw [pick_ways h5]
  constructor
  · intro hne
    obtain ⟨t, ht⟩ := List.exists_mem_of_ne_nil _ hne
    obtain ⟨r, -, hl, ha⟩ := (rtr_mem w fits_no set _ _ _).1 ht
    -- what stands at each place
    have key : ∀ (r bg : List Int), allR w set bg r → (∀ j, j < r.length → goodR w set (bg ++ r.take j) (r.getD j 0)) := by
      intro r
      induction r with
      | nil => intro bg _ j hj; simp at hj
      | cons x r ih =>
        rintro bg ⟨g, h⟩ j hj
        cases j with
        | zero => simpa using g
        | succ j =>
          have := ih (bg ++ [x]) h j (by simpa using hj)
          simpa using this
    have k := key r [] ha
    refine ⟨fun j => (r.getD j 0).toNat, fun j hj => ?_, fun a b hA hB e => ?_⟩
    · have := k j (by omega)
      unfold goodR at this
      simp only [List.nil_append] at this
      rw [show (r.take j).length = j by rw [List.length_take]; omega, hj.2] at this
      obtain ⟨o, h1, h2, -⟩ := this
      simp only
      rw [h1, Int.toNat_natCast]
      exact h2
    · have at_ : ∀ j, j < w.fits.length ∧ set.testBit j = true → ∃ o : Nat, r.getD j 0 = (o : Int) ∧ (o : Int) ∉ r.take j := fun j hj => by
        have := k j (by omega)
        unfold goodR at this
        simp only [List.nil_append] at this
        rw [show (r.take j).length = j by rw [List.length_take]; omega, hj.2] at this
        obtain ⟨o, h1, -, h3⟩ := this
        exact ⟨o, h1, h3⟩
      obtain ⟨oa, a1, a2⟩ := at_ a hA
      obtain ⟨ob, b1, b2⟩ := at_ b hB
      simp only at e
      rw [a1, b1, Int.toNat_natCast, Int.toNat_natCast] at e
      subst e
      have mem : ∀ x y, x < y → y < r.length → r.getD x 0 ∈ r.take y := fun x y h1 h2 => by
        have : (r.take y)[x]? = some (r.getD x 0) := by
          rw [List.getElem?_take_of_lt h1, List.getD_eq_getElem?_getD, List.getElem?_eq_getElem (by omega)]; rfl
        exact List.mem_of_getElem? this
      rcases Nat.lt_trichotomy a b with h | h | h
      · have := mem a b h (by omega)
        rw [a1] at this
        exact absurd this b2
      · exact h
      · have := mem b a h (by omega)
        rw [b1] at this
        exact absurd this a2
  · rintro ⟨φ, h1, h2⟩ he
    let v : Nat → Int := fun j => if set.testBit j then (φ j : Int) else -1
    have key : ∀ (l k : Nat), k + l = w.fs.length → allR w set ((List.range k).map v) (((List.range l).map fun j => v (k + j))) := by
      intro l
      induction l with
      | zero => intro k _; exact trivial
      | succ l ih =>
        intro k hk
        rw [List.range_succ_eq_map, List.map_cons, List.map_map]
        refine ⟨?_, ?_⟩
        · unfold goodR
          rw [List.length_map, List.length_range]
          cases hb : set.testBit k
          · simp [v, hb]
          · rw [if_pos rfl]
            refine ⟨φ k, by simp [v, hb], h1 k ⟨by omega, hb⟩, fun hm => ?_⟩
            obtain ⟨j, hj, e⟩ := List.mem_map.1 hm
            have hjk := List.mem_range.1 hj
            simp only [v] at e
            cases hbj : set.testBit j
            · rw [hbj] at e
              simp only [Bool.false_eq_true, if_false] at e
              omega
            · rw [hbj] at e
              simp only [if_true] at e
              have := h2 j k ⟨by omega, hbj⟩ ⟨by omega, hb⟩ (by omega)
              omega
        · have := ih (k + 1) (by omega)
          rw [List.range_succ, List.map_append] at this
          have e1 : (List.range l).map ((fun j => v (k + j)) ∘ Nat.succ) = (List.range l).map fun j => v (k + 1 + j) := by
            refine List.map_congr_left fun j _ => ?_
            simp only [Function.comp]
            congr 1
            omega
          rw [e1]
          simpa using this
    have hm := (rtr_mem w fits_no set w.fs.length [] _).2 ⟨_, rfl, by simp, key w.fs.length 0 (by omega)⟩
    rw [he] at hm
    cases hm
end Go.Proofs.YtnmmhkkmejbckaaGreatDoor
